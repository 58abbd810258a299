/- slices.IndexFunc at the closures of courseOf and of Section of package reports. -/
import Derived.Test.YtdgfljkhnifemaaGreatDoorSct
namespace Go.Proofs.YtdgfljkhnifemaaGreatDoor
open Go.RowKit
set_option linter.unusedVariables false
set_option linter.unusedSimpArgs false

set_option maxRecDepth 100000 in
theorem p_cnode (nm s : ByteArray) (kd ax ay iv gd : Int) (A : Option Addr) (n c : Nat) (pt : Bool) (rs : Int) (g : Nat) (f : Bool) (hf : f = decide (nm = s)) (w : World) (hy : w.cell? ⟨g, 0, none⟩ = some (.string s)) (hg : g < w.heap.size) :
    Calls Tryz.prog 60 #[.agg #[.string nm, .int .i64 kd, .int .i64 ax, .int .i64 ay, .int .i64 iv, .int .i64 gd, .slice A n c, .bool pt, .int .i64 rs], .pointer (some ⟨g, 0, none⟩)] w fun e w' => e = .returned (.bool f) ∧ Below w.heap.size w w' := by
  by_cases h : nm = s
  · subst h
    obtain rfl : f = true := by rw [hf]; simp
    clear hf
    go_enter Tryz.func60, Tryz.ntmps60
    go_wp2_with fail
    go_ret
    exact ⟨by first | rfl | (simp; done), by (repeat' (first | assumption | exact Below.refl _ _ | exact Below.size (by assumption) | (refine Below.setCell ?_ ?_ _) | (refine Below.alloc ?_ ?_ _) | (refine Below.drew ?_) | (refine below_drewN ?_ _) | (refine Below.trans ?_ (Below.mono ‹Below _ _ _› ?_)) | omega | (simp; done) | (simp; omega) | (simp at *; omega)))⟩
  · have t1 : ¬ nm.toList = s.toList := fun e => h (bytes_ext e)
    have t2 : (nm.toList == s.toList) = false := by simp [t1]
    obtain rfl : f = false := by rw [hf]; exact decide_eq_false h
    clear hf h
    go_enter Tryz.func60, Tryz.ntmps60
    go_wp2_with fail
    go_ret
    exact ⟨by first | rfl | (simp; done), by (repeat' (first | assumption | exact Below.refl _ _ | exact Below.size (by assumption) | (refine Below.setCell ?_ ?_ _) | (refine Below.alloc ?_ ?_ _) | (refine Below.drew ?_) | (refine below_drewN ?_ _) | (refine Below.trans ?_ (Below.mono ‹Below _ _ _› ?_)) | omega | (simp; done) | (simp; omega) | (simp at *; omega)))⟩
set_option maxRecDepth 100000 in
set_option maxHeartbeats 2000000 in
theorem find_cnode (A : Option Addr) (n c : Nat) (D : Nds) (s : ByteArray) (g : Nat) (w : World) (h2 : n ≤ 2000) (ht : NdIn w A n D) (hy : w.cell? ⟨g, 0, none⟩ = some (.string s)) (hg : g < w.heap.size) :
    Calls Tryz.prog 52 #[.slice A n c, .func (.func 60) #[] #[.pointer (some ⟨g, 0, none⟩)]] w fun e w' => e = .returned (.int .i64 (fnd D.Nm n s)) ∧ Below w.heap.size w w' := by
  obtain ⟨k, hk, hv⟩ := fnd_spec D.Nm n s
  generalize fnd D.Nm n s = v at hv ⊢
  have HT := Lib.hid ht
  have HK := Lib.hid hk
  have H2 := Lib.hid h2
  have HV := Lib.hid hv
  have HY := Lib.hid hy
  clear hy ht hk h2 hv
  go_enter Tryz.func52, Tryz.ntmps52
  go_wp2_with fail
  go_loopw [8] (fun u wr => ∃ i : Nat, Hid (i ≤ n ∧ i ≤ k) ∧ u = .int .i64 i ∧ Hid (Below w.heap.size w wr)) (fun u _ => n - (RowKit.intOf u).toNat)
  case atStart => exact ⟨0, ⟨Nat.zero_le _, Nat.zero_le _⟩, rfl, Below.refl _ _⟩
  case round =>
    obtain ⟨i, Hi, rfl, HW⟩ := hrel
    by_cases hlt : i < n
    · have T0 : decide ((i : Int) < (n : Int)) = true := by simp <;> omega
      have T0' : decide (i < n) = true := decide_eq_true hlt
      obtain ⟨i', hi'⟩ : ∃ z, z = i + 1 := ⟨_, rfl⟩
      have x0 : IntKind.i64.wrap ((i : Int) + 1) = (i' : Int) := by have := H2.out; rw [IntKind.wrap_i64]; omega
      obtain ⟨b, off, rfl, hb, hC, _⟩ := (HT.out.below (Nat.le_refl _) HW.out).at hlt
      have c0 := hC 0 _ rfl
      have c1 := hC 1 _ rfl
      have c2 := hC 2 _ rfl
      have c3 := hC 3 _ rfl
      have c4 := hC 4 _ rfl
      have c5 := hC 5 _ rfl
      have c6 := hC 6 _ rfl
      have c7 := hC 7 _ rfl
      have c8 := hC 8 _ rfl
      have k0 : (0 : Int) ≤ (i : Int) := by omega
      have k1 : (i : Int) < (n : Int) := by omega
      have hyr : wr.cell? ⟨g, 0, none⟩ = some (.string s) := (HW.out.cell (p := ⟨g, 0, none⟩) hg).trans HY.out
      have hgr : g < wr.heap.size := Nat.lt_of_lt_of_le hg HW.out.size
      have HMS : Hid (n - (RowKit.intOf (Value.int .i64 (i' : Int))).toNat < n - (RowKit.intOf (Value.int .i64 (i : Int))).toNat) := by show _ < _; simp [RowKit.intOf]; omega
      rcases first_at HK.out hlt Hi.out.2 with ⟨hp, hik⟩ | ⟨hp, hik⟩
      · have KK := Lib.hid (p_cnode (D.Nm i) s (D.Kd i) (D.Ax i) (D.Ay i) (D.Iv i) (D.Gd i) (D.SA i) (D.SN i) (D.SC i) (D.Pt i) (D.Rs i) g true hp.symm wr hyr hgr)
        have HR : Hid ((i : Int) = v) := by show (i : Int) = v; rw [HV.out, hik, if_pos (by omega)]
        simp only [Nat.add_zero] at c0
        clear hi' hp hik hC hyr hgr
        go_wp2_with (first | (go_at_call 60; (with_reducible refine (KK.out).mono ?_); rintro e w1 ⟨rfl, hb1⟩; obtain ⟨hc1, hf1⟩ := bcell hb1; have hz1 := hb1.size; (try simp at hz1); (try simp only [heap_drew, World.heap_drewN] at hz1); (try simp only [heap_drew, World.heap_drewN] at hc1); (try simp only [heap_drew, World.heap_drewN] at hf1); (try have hs1 := Nat.lt_of_succ_le hz1); (try have hs2 := Nat.lt_of_succ_lt hs1); (try have y0 : w.heap.size < w1.heap.size := by omega); (try have y1 : w.heap.size + 1 < w1.heap.size := by omega); (try have y2 : w.heap.size + 2 < w1.heap.size := by omega)))
        go_ret
        refine ⟨ret_int HR.out, ?_⟩
        have := HW.out
        (repeat' (first | assumption | exact Below.refl _ _ | exact Below.size (by assumption) | (refine Below.setCell ?_ ?_ _) | (refine Below.alloc ?_ ?_ _) | (refine Below.drew ?_) | (refine below_drewN ?_ _) | (refine Below.trans ?_ (Below.mono ‹Below _ _ _› ?_)) | omega | (simp; done) | (simp; omega) | (simp at *; omega)))
      · have KK := Lib.hid (p_cnode (D.Nm i) s (D.Kd i) (D.Ax i) (D.Ay i) (D.Iv i) (D.Gd i) (D.SA i) (D.SN i) (D.SC i) (D.Pt i) (D.Rs i) g false hp.symm wr hyr hgr)
        have HI' : Hid (i' ≤ n ∧ i' ≤ k) := by show _ ∧ _; omega
        simp only [Nat.add_zero] at c0
        clear hi' hp hik hC hyr hgr
        go_wp2_with (first | (go_at_call 60; (with_reducible refine (KK.out).mono ?_); rintro e w1 ⟨rfl, hb1⟩; obtain ⟨hc1, hf1⟩ := bcell hb1; have hz1 := hb1.size; (try simp at hz1); (try simp only [heap_drew, World.heap_drewN] at hz1); (try simp only [heap_drew, World.heap_drewN] at hc1); (try simp only [heap_drew, World.heap_drewN] at hf1); (try have hs1 := Nat.lt_of_succ_le hz1); (try have hs2 := Nat.lt_of_succ_lt hs1); (try have y0 : w.heap.size < w1.heap.size := by omega); (try have y1 : w.heap.size + 1 < w1.heap.size := by omega); (try have y2 : w.heap.size + 2 < w1.heap.size := by omega)))
        go_roundw
        case rel => exact ⟨i', HI', rfl, by have := HW.out; (repeat' (first | assumption | exact Below.refl _ _ | exact Below.size (by assumption) | (refine Below.setCell ?_ ?_ _) | (refine Below.alloc ?_ ?_ _) | (refine Below.drew ?_) | (refine below_drewN ?_ _) | (refine Below.trans ?_ (Below.mono ‹Below _ _ _› ?_)) | omega | (simp; done) | (simp; omega) | (simp at *; omega)))⟩
        case measure => exact HMS.out
    · have e : i = n := by have := Hi.out; omega
      have HR : Hid ((-1 : Int) = v) := by show (-1 : Int) = v; rw [HV.out, if_neg (by have := Hi.out; omega)]
      have T0 : decide ((i : Int) < (n : Int)) = false := by simp <;> omega
      have T0' : decide (i < n) = false := decide_eq_false hlt
      clear e hlt
      go_wp2_with fail
      go_ret
      exact ⟨ret_int HR.out, HW.out⟩
set_option maxRecDepth 100000 in
theorem p_csec (nm s : ByteArray) (h p : Int) (A : Option Addr) (an ac : Nat) (B : Option Addr) (bn bc : Nat) (g : Nat) (f : Bool) (hf : f = decide (nm = s)) (w : World) (hy : w.cell? ⟨g, 7, none⟩ = some (.string s)) (hg : g < w.heap.size) :
    Calls Tryz.prog 34 #[.agg #[.string nm, .int .i64 h, .int .i64 p, .slice A an ac, .slice B bn bc], .pointer (some ⟨g, 0, none⟩)] w fun e w' => e = .returned (.bool f) ∧ Below w.heap.size w w' := by
  by_cases hh : nm = s
  · subst hh
    obtain rfl : f = true := by rw [hf]; simp
    clear hf
    go_enter Tryz.func34, Tryz.ntmps34
    go_wp2_with fail
    go_ret
    exact ⟨by first | rfl | (simp; done), by (repeat' (first | assumption | exact Below.refl _ _ | exact Below.size (by assumption) | (refine Below.setCell ?_ ?_ _) | (refine Below.alloc ?_ ?_ _) | (refine Below.drew ?_) | (refine below_drewN ?_ _) | (refine Below.trans ?_ (Below.mono ‹Below _ _ _› ?_)) | omega | (simp; done) | (simp; omega) | (simp at *; omega)))⟩
  · have t1 : ¬ nm.toList = s.toList := fun e => hh (bytes_ext e)
    have t2 : (nm.toList == s.toList) = false := by simp [t1]
    obtain rfl : f = false := by rw [hf]; exact decide_eq_false hh
    clear hf hh
    go_enter Tryz.func34, Tryz.ntmps34
    go_wp2_with fail
    go_ret
    exact ⟨by first | rfl | (simp; done), by (repeat' (first | assumption | exact Below.refl _ _ | exact Below.size (by assumption) | (refine Below.setCell ?_ ?_ _) | (refine Below.alloc ?_ ?_ _) | (refine Below.drew ?_) | (refine below_drewN ?_ _) | (refine Below.trans ?_ (Below.mono ‹Below _ _ _› ?_)) | omega | (simp; done) | (simp; omega) | (simp at *; omega)))⟩
set_option maxRecDepth 100000 in
set_option maxHeartbeats 2000000 in
theorem find_csec (A : Option Addr) (n c : Nat) (D : Scs) (s : ByteArray) (g : Nat) (w : World) (h2 : n ≤ 2000) (ht : ScIn w A n D) (hy : w.cell? ⟨g, 7, none⟩ = some (.string s)) (hg : g < w.heap.size) :
    Calls Tryz.prog 33 #[.slice A n c, .func (.func 34) #[] #[.pointer (some ⟨g, 0, none⟩)]] w fun e w' => e = .returned (.int .i64 (fnd D.Nm n s)) ∧ Below w.heap.size w w' := by
  obtain ⟨k, hk, hv⟩ := fnd_spec D.Nm n s
  generalize fnd D.Nm n s = v at hv ⊢
  have HT := Lib.hid ht
  have HK := Lib.hid hk
  have H2 := Lib.hid h2
  have HV := Lib.hid hv
  have HY := Lib.hid hy
  clear hy ht hk h2 hv
  go_enter Tryz.func33, Tryz.ntmps33
  go_wp2_with fail
  go_loopw [8] (fun u wr => ∃ i : Nat, Hid (i ≤ n ∧ i ≤ k) ∧ u = .int .i64 i ∧ Hid (Below w.heap.size w wr)) (fun u _ => n - (RowKit.intOf u).toNat)
  case atStart => exact ⟨0, ⟨Nat.zero_le _, Nat.zero_le _⟩, rfl, Below.refl _ _⟩
  case round =>
    obtain ⟨i, Hi, rfl, HW⟩ := hrel
    by_cases hlt : i < n
    · have T0 : decide ((i : Int) < (n : Int)) = true := by simp <;> omega
      have T0' : decide (i < n) = true := decide_eq_true hlt
      obtain ⟨i', hi'⟩ : ∃ z, z = i + 1 := ⟨_, rfl⟩
      have x0 : IntKind.i64.wrap ((i : Int) + 1) = (i' : Int) := by have := H2.out; rw [IntKind.wrap_i64]; omega
      obtain ⟨b, off, rfl, hb, hC, _⟩ := (HT.out.below (Nat.le_refl _) HW.out).at hlt
      have c0 := hC 0 _ rfl
      have c1 := hC 1 _ rfl
      have c2 := hC 2 _ rfl
      have c3 := hC 3 _ rfl
      have c4 := hC 4 _ rfl
      have k0 : (0 : Int) ≤ (i : Int) := by omega
      have k1 : (i : Int) < (n : Int) := by omega
      have hyr : wr.cell? ⟨g, 7, none⟩ = some (.string s) := (HW.out.cell (p := ⟨g, 7, none⟩) hg).trans HY.out
      have hgr : g < wr.heap.size := Nat.lt_of_lt_of_le hg HW.out.size
      have HMS : Hid (n - (RowKit.intOf (Value.int .i64 (i' : Int))).toNat < n - (RowKit.intOf (Value.int .i64 (i : Int))).toNat) := by show _ < _; simp [RowKit.intOf]; omega
      rcases first_at HK.out hlt Hi.out.2 with ⟨hp, hik⟩ | ⟨hp, hik⟩
      · have KK := Lib.hid (p_csec (D.Nm i) s (D.Ht i) (D.Pr i) (D.AA i) (D.AN i) (D.AC i) (D.BA i) (D.BN i) (D.BC i) g true hp.symm wr hyr hgr)
        have HR : Hid ((i : Int) = v) := by show (i : Int) = v; rw [HV.out, hik, if_pos (by omega)]
        simp only [Nat.add_zero] at c0
        clear hi' hp hik hC hyr hgr
        go_wp2_with (first | (go_at_call 34; (with_reducible refine (KK.out).mono ?_); rintro e w1 ⟨rfl, hb1⟩; obtain ⟨hc1, hf1⟩ := bcell hb1; have hz1 := hb1.size; (try simp at hz1); (try simp only [heap_drew, World.heap_drewN] at hz1); (try simp only [heap_drew, World.heap_drewN] at hc1); (try simp only [heap_drew, World.heap_drewN] at hf1); (try have hs1 := Nat.lt_of_succ_le hz1); (try have hs2 := Nat.lt_of_succ_lt hs1); (try have y0 : w.heap.size < w1.heap.size := by omega); (try have y1 : w.heap.size + 1 < w1.heap.size := by omega); (try have y2 : w.heap.size + 2 < w1.heap.size := by omega)))
        go_ret
        refine ⟨ret_int HR.out, ?_⟩
        have := HW.out
        (repeat' (first | assumption | exact Below.refl _ _ | exact Below.size (by assumption) | (refine Below.setCell ?_ ?_ _) | (refine Below.alloc ?_ ?_ _) | (refine Below.drew ?_) | (refine below_drewN ?_ _) | (refine Below.trans ?_ (Below.mono ‹Below _ _ _› ?_)) | omega | (simp; done) | (simp; omega) | (simp at *; omega)))
      · have KK := Lib.hid (p_csec (D.Nm i) s (D.Ht i) (D.Pr i) (D.AA i) (D.AN i) (D.AC i) (D.BA i) (D.BN i) (D.BC i) g false hp.symm wr hyr hgr)
        have HI' : Hid (i' ≤ n ∧ i' ≤ k) := by show _ ∧ _; omega
        simp only [Nat.add_zero] at c0
        clear hi' hp hik hC hyr hgr
        go_wp2_with (first | (go_at_call 34; (with_reducible refine (KK.out).mono ?_); rintro e w1 ⟨rfl, hb1⟩; obtain ⟨hc1, hf1⟩ := bcell hb1; have hz1 := hb1.size; (try simp at hz1); (try simp only [heap_drew, World.heap_drewN] at hz1); (try simp only [heap_drew, World.heap_drewN] at hc1); (try simp only [heap_drew, World.heap_drewN] at hf1); (try have hs1 := Nat.lt_of_succ_le hz1); (try have hs2 := Nat.lt_of_succ_lt hs1); (try have y0 : w.heap.size < w1.heap.size := by omega); (try have y1 : w.heap.size + 1 < w1.heap.size := by omega); (try have y2 : w.heap.size + 2 < w1.heap.size := by omega)))
        go_roundw
        case rel => exact ⟨i', HI', rfl, by have := HW.out; (repeat' (first | assumption | exact Below.refl _ _ | exact Below.size (by assumption) | (refine Below.setCell ?_ ?_ _) | (refine Below.alloc ?_ ?_ _) | (refine Below.drew ?_) | (refine below_drewN ?_ _) | (refine Below.trans ?_ (Below.mono ‹Below _ _ _› ?_)) | omega | (simp; done) | (simp; omega) | (simp at *; omega)))⟩
        case measure => exact HMS.out
    · have e : i = n := by have := Hi.out; omega
      have HR : Hid ((-1 : Int) = v) := by show (-1 : Int) = v; rw [HV.out, if_neg (by have := Hi.out; omega)]
      have T0 : decide ((i : Int) < (n : Int)) = false := by simp <;> omega
      have T0' : decide (i < n) = false := decide_eq_false hlt
      clear e hlt
      go_wp2_with fail
      go_ret
      exact ⟨ret_int HR.out, HW.out⟩
set_option maxRecDepth 100000 in
set_option maxHeartbeats 2000000 in
theorem p_clink (nm fr tn : ByteArray) (kd ln up dn : Int) (sc : ByteArray) (wd ht : Int) (LA : Option Addr) (ln' lc : Nat) (A : Option Addr) (p pc : Nat) (N : Nat → ByteArray) (i : Nat) (t : ByteArray) (g0 g1 g2 : Nat) (hip : i < p) (f : Bool) (hf : f = decide (fr = N i ∧ tn = t)) (w : World) (hN : StrIn w A p N) (y0 : w.cell? ⟨g0, 0, none⟩ = some (.slice A p pc)) (y1 : w.cell? ⟨g1, 0, none⟩ = some (.int .i64 (i : Int))) (y2 : w.cell? ⟨g2, 0, none⟩ = some (.string t)) (hg : g0 < w.heap.size ∧ g1 < w.heap.size ∧ g2 < w.heap.size) :
    Calls Tryz.prog 61 #[.agg #[.string nm, .string fr, .string tn, .int .i64 kd, .int .i64 ln, .int .i64 up, .int .i64 dn, .string sc, .int .i64 wd, .int .i64 ht, .slice LA ln' lc], .pointer (some ⟨g0, 0, none⟩), .pointer (some ⟨g1, 0, none⟩), .pointer (some ⟨g2, 0, none⟩)] w fun e w' => e = .returned (.bool f) ∧ Below w.heap.size w w' := by
  obtain ⟨b, off, rfl, hb, c0⟩ := hN.at hip
  have k0 : (0 : Int) ≤ (i : Int) := by omega
  have k1 : (i : Int) < (p : Int) := by omega
  clear hN
  by_cases h1 : fr = N i
  case neg =>
    have t1 : ¬ fr.toList = (N i).toList := fun e => h1 (bytes_ext e)
    have t2 : (fr.toList == (N i).toList) = false := by simp [t1]
    obtain rfl : f = false := by rw [hf]; exact decide_eq_false fun h => h1 h.1
    generalize N i = x at c0 t1 t2
    clear hf h1
    go_enter Tryz.func61, Tryz.ntmps61
    go_upto_region 1 with fail
    have hal : Below w.heap.size w (w.alloc (Obj.cells #[.string nm, .string fr, .string tn, .int .i64 kd, .int .i64 ln, .int .i64 up, .int .i64 dn, .string sc, .int .i64 wd, .int .i64 ht, .slice LA ln' lc] 48)) := (Below.refl _ w).alloc (Nat.le_refl _) _
    have HBG := Blk.new w 48 #[.string nm, .string fr, .string tn, .int .i64 kd, .int .i64 ln, .int .i64 up, .int .i64 dn, .string sc, .int .i64 wd, .int .i64 ht, .slice LA ln' lc]
    have e0 := (hal.cell (p := ⟨g0, 0, none⟩) hg.1).trans y0
    have e1 := (hal.cell (p := ⟨g1, 0, none⟩) hg.2.1).trans y1
    have e2 := (hal.cell (p := ⟨g2, 0, none⟩) hg.2.2).trans y2
    have e3 := (hal.cell (p := ⟨b, off + i, none⟩) hb).trans c0
    have HAL := Lib.hid hal
    clear hal y0 y1 y2 c0 hb hg
    generalize w.alloc (Obj.cells #[.string nm, .string fr, .string tn, .int .i64 kd, .int .i64 ln, .int .i64 up, .int .i64 dn, .string sc, .int .i64 wd, .int .i64 ht, .slice LA ln' lc] 48) = w1 at HBG HAL e0 e1 e2 e3 ⊢
    generalize w.heap.size = G at HBG ⊢
    obtain ⟨q0, q1, q2, q3, q4, q5, q6, q7, q8, q9, q10⟩ := blk11 HBG
    go_quiet (fail)
    go_wp2_with fail
    go_ret
    exact ⟨by first | rfl | (simp; done), below_drewN HAL.out _⟩
  by_cases h2 : tn = t
  case neg =>
    have t1 : ¬ tn.toList = t.toList := fun e => h2 (bytes_ext e)
    have t2 : (tn.toList == t.toList) = false := by simp [t1]
    obtain rfl : f = false := by rw [hf]; exact decide_eq_false fun h => h2 h.2
    rw [← h1] at c0
    clear hf h1 h2
    go_enter Tryz.func61, Tryz.ntmps61
    go_upto_region 1 with fail
    have hal : Below w.heap.size w (w.alloc (Obj.cells #[.string nm, .string fr, .string tn, .int .i64 kd, .int .i64 ln, .int .i64 up, .int .i64 dn, .string sc, .int .i64 wd, .int .i64 ht, .slice LA ln' lc] 48)) := (Below.refl _ w).alloc (Nat.le_refl _) _
    have HBG := Blk.new w 48 #[.string nm, .string fr, .string tn, .int .i64 kd, .int .i64 ln, .int .i64 up, .int .i64 dn, .string sc, .int .i64 wd, .int .i64 ht, .slice LA ln' lc]
    have e0 := (hal.cell (p := ⟨g0, 0, none⟩) hg.1).trans y0
    have e1 := (hal.cell (p := ⟨g1, 0, none⟩) hg.2.1).trans y1
    have e2 := (hal.cell (p := ⟨g2, 0, none⟩) hg.2.2).trans y2
    have e3 := (hal.cell (p := ⟨b, off + i, none⟩) hb).trans c0
    have HAL := Lib.hid hal
    clear hal y0 y1 y2 c0 hb hg
    generalize w.alloc (Obj.cells #[.string nm, .string fr, .string tn, .int .i64 kd, .int .i64 ln, .int .i64 up, .int .i64 dn, .string sc, .int .i64 wd, .int .i64 ht, .slice LA ln' lc] 48) = w1 at HBG HAL e0 e1 e2 e3 ⊢
    generalize w.heap.size = G at HBG ⊢
    obtain ⟨q0, q1, q2, q3, q4, q5, q6, q7, q8, q9, q10⟩ := blk11 HBG
    go_quiet (fail)
    go_wp2_with fail
    go_ret
    exact ⟨by first | rfl | (simp; done), below_drewN HAL.out _⟩
  obtain rfl : f = true := by rw [hf]; exact decide_eq_true ⟨h1, h2⟩
  rw [← h1] at c0
  rw [← h2] at y2
  clear hf h1 h2
  go_enter Tryz.func61, Tryz.ntmps61
  go_upto_region 1 with fail
  have hal : Below w.heap.size w (w.alloc (Obj.cells #[.string nm, .string fr, .string tn, .int .i64 kd, .int .i64 ln, .int .i64 up, .int .i64 dn, .string sc, .int .i64 wd, .int .i64 ht, .slice LA ln' lc] 48)) := (Below.refl _ w).alloc (Nat.le_refl _) _
  have HBG := Blk.new w 48 #[.string nm, .string fr, .string tn, .int .i64 kd, .int .i64 ln, .int .i64 up, .int .i64 dn, .string sc, .int .i64 wd, .int .i64 ht, .slice LA ln' lc]
  have e0 := (hal.cell (p := ⟨g0, 0, none⟩) hg.1).trans y0
  have e1 := (hal.cell (p := ⟨g1, 0, none⟩) hg.2.1).trans y1
  have e2 := (hal.cell (p := ⟨g2, 0, none⟩) hg.2.2).trans y2
  have e3 := (hal.cell (p := ⟨b, off + i, none⟩) hb).trans c0
  have HAL := Lib.hid hal
  clear hal y0 y1 y2 c0 hb hg
  generalize w.alloc (Obj.cells #[.string nm, .string fr, .string tn, .int .i64 kd, .int .i64 ln, .int .i64 up, .int .i64 dn, .string sc, .int .i64 wd, .int .i64 ht, .slice LA ln' lc] 48) = w1 at HBG HAL e0 e1 e2 e3 ⊢
  generalize w.heap.size = G at HBG ⊢
  obtain ⟨q0, q1, q2, q3, q4, q5, q6, q7, q8, q9, q10⟩ := blk11 HBG
  go_quiet (fail)
  go_wp2_with fail
  go_ret
  exact ⟨by first | rfl | (simp; done), below_drewN HAL.out _⟩
set_option maxRecDepth 100000 in
set_option maxHeartbeats 2000000 in
theorem find_clink (LA : Option Addr) (m lc : Nat) (K : Lks) (A : Option Addr) (p pc : Nat) (N : Nat → ByteArray) (q : Nat) (t : ByteArray) (g0 g1 g2 : Nat) (w : World) (h2 : m ≤ 2000) (hip : q < p) (ht : LkIn w LA m K) (hN : StrIn w A p N) (y0 : w.cell? ⟨g0, 0, none⟩ = some (.slice A p pc)) (y1 : w.cell? ⟨g1, 0, none⟩ = some (.int .i64 (q : Int))) (y2 : w.cell? ⟨g2, 0, none⟩ = some (.string t)) (hg : g0 < w.heap.size ∧ g1 < w.heap.size ∧ g2 < w.heap.size) :
    Calls Tryz.prog 53 #[.slice LA m lc, .func (.func 61) #[] #[.pointer (some ⟨g0, 0, none⟩), .pointer (some ⟨g1, 0, none⟩), .pointer (some ⟨g2, 0, none⟩)]] w fun e w' => e = .returned (.int .i64 (btw K m (N q) t)) ∧ Below w.heap.size w w' := by
  obtain ⟨k, hk, hv⟩ := fst1_spec (btwP K (N q) t) m
  unfold btw
  generalize fst1 (btwP K (N q) t) m = v at hv ⊢
  have HT := Lib.hid ht
  have HK := Lib.hid hk
  have H2 := Lib.hid h2
  have HV := Lib.hid hv
  have HN := Lib.hid hN
  have Y0 := Lib.hid y0
  have Y1 := Lib.hid y1
  have Y2 := Lib.hid y2
  have HG := Lib.hid hg
  have HIP := Lib.hid hip
  clear ht hk h2 hv hN y0 y1 y2 hg hip
  go_enter Tryz.func53, Tryz.ntmps53
  go_wp2_with fail
  go_loopw [8] (fun u wr => ∃ i : Nat, Hid (i ≤ m ∧ i ≤ k) ∧ u = .int .i64 i ∧ Hid (Below w.heap.size w wr)) (fun u _ => m - (RowKit.intOf u).toNat)
  case atStart => exact ⟨0, ⟨Nat.zero_le _, Nat.zero_le _⟩, rfl, Below.refl _ _⟩
  case round =>
    obtain ⟨i, Hi, rfl, HW⟩ := hrel
    by_cases hlt : i < m
    · have T0 : decide ((i : Int) < (m : Int)) = true := by simp <;> omega
      have T0' : decide (i < m) = true := decide_eq_true hlt
      obtain ⟨i', hi'⟩ : ∃ z, z = i + 1 := ⟨_, rfl⟩
      have x0 : IntKind.i64.wrap ((i : Int) + 1) = (i' : Int) := by have := H2.out; rw [IntKind.wrap_i64]; omega
      obtain ⟨b, off, rfl, hb, hC, _⟩ := (HT.out.below (Nat.le_refl _) HW.out).at hlt
      have c0 := hC 0 _ rfl
      have c1 := hC 1 _ rfl
      have c2 := hC 2 _ rfl
      have c3 := hC 3 _ rfl
      have c4 := hC 4 _ rfl
      have c5 := hC 5 _ rfl
      have c6 := hC 6 _ rfl
      have c7 := hC 7 _ rfl
      have c8 := hC 8 _ rfl
      have c9 := hC 9 _ rfl
      have c10 := hC 10 _ rfl
      have k0 : (0 : Int) ≤ (i : Int) := by omega
      have k1 : (i : Int) < (m : Int) := by omega
      have z0 := (HW.out.cell (p := ⟨g0, 0, none⟩) HG.out.1).trans Y0.out
      have z1 := (HW.out.cell (p := ⟨g1, 0, none⟩) HG.out.2.1).trans Y1.out
      have z2 := (HW.out.cell (p := ⟨g2, 0, none⟩) HG.out.2.2).trans Y2.out
      have zN := HN.out.below (Nat.le_refl _) HW.out
      have HMS : Hid (m - (RowKit.intOf (Value.int .i64 (i' : Int))).toNat < m - (RowKit.intOf (Value.int .i64 (i : Int))).toNat) := by show _ < _; simp [RowKit.intOf]; omega
      rcases first_at HK.out hlt Hi.out.2 with ⟨hp, hik⟩ | ⟨hp, hik⟩
      · have KK := Lib.hid (p_clink (K.Nm i) (K.Fr i) (K.To i) (K.Kd i) (K.Ln i) (K.Up i) (K.Dn i) (K.Sc i) (K.Wd i) (K.Ht i) (K.CA i) (K.CN i) (K.CC i) A p pc N q t g0 g1 g2 HIP.out true hp.symm wr zN z0 z1 z2 ⟨Nat.lt_of_lt_of_le HG.out.1 HW.out.size, Nat.lt_of_lt_of_le HG.out.2.1 HW.out.size, Nat.lt_of_lt_of_le HG.out.2.2 HW.out.size⟩)
        have HR : Hid ((i : Int) = v) := by show (i : Int) = v; rw [HV.out, hik, if_pos (by omega)]
        simp only [Nat.add_zero] at c0
        clear hi' hp hik hC z0 z1 z2 zN
        go_wp2_with (first | (go_at_call 61; (with_reducible refine (KK.out).mono ?_); rintro e w1 ⟨rfl, hb1⟩; obtain ⟨hc1, hf1⟩ := bcell hb1; have hz1 := hb1.size; (try simp at hz1); (try simp only [heap_drew, World.heap_drewN] at hz1); (try simp only [heap_drew, World.heap_drewN] at hc1); (try simp only [heap_drew, World.heap_drewN] at hf1); (try have hs1 := Nat.lt_of_succ_le hz1); (try have hs2 := Nat.lt_of_succ_lt hs1); (try have y0 : w.heap.size < w1.heap.size := by omega); (try have y1 : w.heap.size + 1 < w1.heap.size := by omega); (try have y2 : w.heap.size + 2 < w1.heap.size := by omega)))
        go_ret
        refine ⟨ret_int HR.out, ?_⟩
        have := HW.out
        (repeat' (first | assumption | exact Below.refl _ _ | exact Below.size (by assumption) | (refine Below.setCell ?_ ?_ _) | (refine Below.alloc ?_ ?_ _) | (refine Below.drew ?_) | (refine below_drewN ?_ _) | (refine Below.trans ?_ (Below.mono ‹Below _ _ _› ?_)) | omega | (simp; done) | (simp; omega) | (simp at *; omega)))
      · have KK := Lib.hid (p_clink (K.Nm i) (K.Fr i) (K.To i) (K.Kd i) (K.Ln i) (K.Up i) (K.Dn i) (K.Sc i) (K.Wd i) (K.Ht i) (K.CA i) (K.CN i) (K.CC i) A p pc N q t g0 g1 g2 HIP.out false hp.symm wr zN z0 z1 z2 ⟨Nat.lt_of_lt_of_le HG.out.1 HW.out.size, Nat.lt_of_lt_of_le HG.out.2.1 HW.out.size, Nat.lt_of_lt_of_le HG.out.2.2 HW.out.size⟩)
        have HI' : Hid (i' ≤ m ∧ i' ≤ k) := by show _ ∧ _; omega
        simp only [Nat.add_zero] at c0
        clear hi' hp hik hC z0 z1 z2 zN
        go_wp2_with (first | (go_at_call 61; (with_reducible refine (KK.out).mono ?_); rintro e w1 ⟨rfl, hb1⟩; obtain ⟨hc1, hf1⟩ := bcell hb1; have hz1 := hb1.size; (try simp at hz1); (try simp only [heap_drew, World.heap_drewN] at hz1); (try simp only [heap_drew, World.heap_drewN] at hc1); (try simp only [heap_drew, World.heap_drewN] at hf1); (try have hs1 := Nat.lt_of_succ_le hz1); (try have hs2 := Nat.lt_of_succ_lt hs1); (try have y0 : w.heap.size < w1.heap.size := by omega); (try have y1 : w.heap.size + 1 < w1.heap.size := by omega); (try have y2 : w.heap.size + 2 < w1.heap.size := by omega)))
        go_roundw
        case rel => exact ⟨i', HI', rfl, by have := HW.out; (repeat' (first | assumption | exact Below.refl _ _ | exact Below.size (by assumption) | (refine Below.setCell ?_ ?_ _) | (refine Below.alloc ?_ ?_ _) | (refine Below.drew ?_) | (refine below_drewN ?_ _) | (refine Below.trans ?_ (Below.mono ‹Below _ _ _› ?_)) | omega | (simp; done) | (simp; omega) | (simp at *; omega)))⟩
        case measure => exact HMS.out
    · have e : i = m := by have := Hi.out; omega
      have HR : Hid ((-1 : Int) = v) := by show (-1 : Int) = v; rw [HV.out, if_neg (by have := Hi.out; omega)]
      have T0 : decide ((i : Int) < (m : Int)) = false := by simp <;> omega
      have T0' : decide (i < m) = false := decide_eq_false hlt
      clear e hlt
      go_wp2_with fail
      go_ret
      exact ⟨ret_int HR.out, HW.out⟩
end Go.Proofs.YtdgfljkhnifemaaGreatDoor

/- The reference: spans, links between nodes, sections by their names, catalogues, courses. -/
import Derived.Test.YtdgfljkhnifemaaGreatDoorHasS
import Derived.Test.YtdgfljkhnifemaaGreatDoorNetW
import Derived.Test.YtdgfljkhnifemaaGreatDoorMgT
namespace Go.Proofs.YtdgfljkhnifemaaGreatDoor
open Go.RowKit
set_option linter.unusedVariables false
set_option linter.unusedSimpArgs false

set_option maxRecDepth 100000 in
theorem rspan4 (lo hi : Int) (f : Bool) (hf : f = decide (spP lo hi)) (w : World) : Calls Tryz.prog 66 #[.agg #[.int .i64 lo, .int .i64 hi]] w fun e w' => e = .returned (.bool f) ∧ Below w.heap.size w w' := by
  by_cases h0 : lo ≤ hi
  case neg =>
    have t0 : decide (lo ≤ hi) = false := decide_eq_false h0
    obtain rfl : f = false := by rw [hf]; exact decide_eq_false fun h => h0 h.1
    clear h0 hf
    go_enter Tryz.func66, Tryz.ntmps66
    go_wp2_with fail
    go_ret
    exact ⟨rfl, by (repeat' (first | assumption | exact Below.refl _ _ | exact Below.size (by assumption) | (refine Below.setCell ?_ ?_ _) | (refine Below.alloc ?_ ?_ _) | (refine Below.drew ?_) | (refine below_drewN ?_ _) | (refine Below.trans ?_ (Below.mono ‹Below _ _ _› ?_)) | omega | (simp; done) | (simp; omega) | (simp at *; omega)))⟩
  have t0 : decide (lo ≤ hi) = true := decide_eq_true h0
  by_cases h1 : -72057594037927936 ≤ lo
  case neg =>
    have t1 : decide (-72057594037927936 ≤ lo) = false := decide_eq_false h1
    obtain rfl : f = false := by rw [hf]; exact decide_eq_false fun h => h1 h.2.1
    clear h0 h1 hf
    go_enter Tryz.func66, Tryz.ntmps66
    go_wp2_with fail
    go_ret
    exact ⟨rfl, by (repeat' (first | assumption | exact Below.refl _ _ | exact Below.size (by assumption) | (refine Below.setCell ?_ ?_ _) | (refine Below.alloc ?_ ?_ _) | (refine Below.drew ?_) | (refine below_drewN ?_ _) | (refine Below.trans ?_ (Below.mono ‹Below _ _ _› ?_)) | omega | (simp; done) | (simp; omega) | (simp at *; omega)))⟩
  have t1 : decide (-72057594037927936 ≤ lo) = true := decide_eq_true h1
  by_cases h2 : hi ≤ 72057594037927936
  case neg =>
    have t2 : decide (hi ≤ 72057594037927936) = false := decide_eq_false h2
    obtain rfl : f = false := by rw [hf]; exact decide_eq_false fun h => h2 h.2.2
    clear h0 h1 h2 hf
    go_enter Tryz.func66, Tryz.ntmps66
    go_wp2_with fail
    go_ret
    exact ⟨rfl, by (repeat' (first | assumption | exact Below.refl _ _ | exact Below.size (by assumption) | (refine Below.setCell ?_ ?_ _) | (refine Below.alloc ?_ ?_ _) | (refine Below.drew ?_) | (refine below_drewN ?_ _) | (refine Below.trans ?_ (Below.mono ‹Below _ _ _› ?_)) | omega | (simp; done) | (simp; omega) | (simp at *; omega)))⟩
  have t2 : decide (hi ≤ 72057594037927936) = true := decide_eq_true h2
  obtain rfl : f = true := by rw [hf]; exact decide_eq_true ⟨h0, h1, h2⟩
  clear h0 h1 h2 hf
  go_enter Tryz.func66, Tryz.ntmps66
  go_wp2_with fail
  go_ret
  exact ⟨rfl, by (repeat' (first | assumption | exact Below.refl _ _ | exact Below.size (by assumption) | (refine Below.setCell ?_ ?_ _) | (refine Below.alloc ?_ ?_ _) | (refine Below.drew ?_) | (refine below_drewN ?_ _) | (refine Below.trans ?_ (Below.mono ‹Below _ _ _› ?_)) | omega | (simp; done) | (simp; omega) | (simp at *; omega)))⟩
set_option maxRecDepth 100000 in
set_option maxHeartbeats 4000000 in
theorem rbtw (NA LA : Option Addr) (nn nc m lc : Nat) (K : Lks) (s t : ByteArray) (w : World) (h2 : m ≤ 2000) (ht : LkIn w LA m K) :
    Calls Tryz.prog 41 #[.agg #[.slice NA nn nc, .slice LA m lc], .string s, .string t] w fun e w' => e = .returned (.int .i64 (btw K m s t)) ∧ Below w.heap.size w w' := by
  obtain ⟨k, hk, hv⟩ := fst1_spec (btwP K s t) m
  unfold btw
  generalize fst1 (btwP K s t) m = v at hv ⊢
  have HT := Lib.hid ht
  have HK := Lib.hid hk
  have H2 := Lib.hid h2
  have HV := Lib.hid hv
  have HB0 : Hid (Blk (w.alloc (Obj.cells #[.slice NA nn nc, .slice LA m lc] 25)) w.heap.size 25 #[.slice NA nn nc, .slice LA m lc]) := Blk.new _ _ _
  have HW0 : Hid (Below w.heap.size w (w.alloc (Obj.cells #[.slice NA nn nc, .slice LA m lc] 25))) := (Below.refl _ w).alloc (Nat.le_refl _) _
  clear ht hk h2 hv
  go_enter Tryz.func41, Tryz.ntmps41
  go_wp2_with fail
  generalize w.alloc (Obj.cells #[.slice NA nn nc, .slice LA m lc] 25) = w1 at HB0 HW0 ⊢
  generalize hgw : w.heap.size = gw at HB0 ⊢
  go_loopw [7] (fun u wr => ∃ i : Nat, Hid (i ≤ m ∧ i ≤ k) ∧ u = .int .i64 i ∧ Hid (Below w1.heap.size w1 wr)) (fun u _ => m - (RowKit.intOf u).toNat)
  case atStart => exact ⟨0, ⟨Nat.zero_le _, Nat.zero_le _⟩, rfl, Below.refl _ _⟩
  case round =>
    obtain ⟨i, Hi, rfl, HW⟩ := hrel
    have HBr := Lib.hid (HB0.out.call HW.out)
    have d0 := HBr.out.cell 0
    have d1 := HBr.out.cell 1
    simp only [List.getElem?_toArray, List.getElem?_cons_zero, List.getElem?_cons_succ] at d0 d1
    have HWW : Hid (Below w.heap.size w wr) := HW0.out.trans (HW.out.mono HW0.out.size)
    by_cases hlt : i < m
    · have T0 : decide ((i : Int) < (m : Int)) = true := by simp <;> omega
      have T0' : decide (i < m) = true := decide_eq_true hlt
      obtain ⟨i', hi'⟩ : ∃ z, z = i + 1 := ⟨_, rfl⟩
      have x0 : IntKind.i64.wrap ((i : Int) + 1) = (i' : Int) := by have := H2.out; rw [IntKind.wrap_i64]; omega
      obtain ⟨b, off, rfl, hb, hC, _⟩ := (HT.out.below (Nat.le_refl _) HWW.out).at hlt
      have c1 := hC 1 _ rfl
      have c2 := hC 2 _ rfl
      have k0 : (0 : Int) ≤ (i : Int) := by omega
      have k1 : (i : Int) < (m : Int) := by omega
      have HMS : Hid (m - (RowKit.intOf (Value.int .i64 (i' : Int))).toNat < m - (RowKit.intOf (Value.int .i64 (i : Int))).toNat) := by show _ < _; simp [RowKit.intOf]; omega
      rcases first_at HK.out hlt Hi.out.2 with ⟨hp, hik⟩ | ⟨hp, hik⟩
      · have HR : Hid ((i : Int) = v) := by show (i : Int) = v; rw [HV.out, hik, if_pos (by omega)]
        have e : K.Fr i = s ∧ K.To i = t := of_decide_eq_true hp
        rw [e.1] at c1
        rw [e.2] at c2
        clear hi' hp hik hC e
        go_wp2_with fail
        go_ret
        exact ⟨ret_int HR.out, HWW.out⟩
      · have HI' : Hid (i' ≤ m ∧ i' ≤ k) := by show _ ∧ _; omega
        have e : ¬ (K.Fr i = s ∧ K.To i = t) := of_decide_eq_false hp
        by_cases e1 : K.Fr i = s
        · have e2 : K.To i ≠ t := fun h => e ⟨e1, h⟩
          rw [e1] at c1
          have u1 : ¬ (K.To i).toList = t.toList := fun h => e2 (bytes_ext h)
          have u2 : ((K.To i).toList == t.toList) = false := by simp [u1]
          clear hi' hp hik hC e e1 e2
          go_wp2_with fail
          go_roundw
          case rel => exact ⟨i', HI', rfl, HW⟩
          case measure => exact HMS.out
        · have u1 : ¬ (K.Fr i).toList = s.toList := fun h => e1 (bytes_ext h)
          have u2 : ((K.Fr i).toList == s.toList) = false := by simp [u1]
          clear hi' hp hik hC e e1
          go_wp2_with fail
          go_roundw
          case rel => exact ⟨i', HI', rfl, HW⟩
          case measure => exact HMS.out
    · have e : i = m := by have := Hi.out; omega
      have HR : Hid ((-1 : Int) = v) := by show (-1 : Int) = v; rw [HV.out, if_neg (by have := Hi.out; omega)]
      have T0 : decide ((i : Int) < (m : Int)) = false := by simp <;> omega
      have T0' : decide (i < m) = false := decide_eq_false hlt
      clear e hlt
      go_wp2_with fail
      go_ret
      exact ⟨ret_int HR.out, HWW.out⟩
set_option maxRecDepth 100000 in
set_option maxHeartbeats 2000000 in
theorem rfsec (A : Option Addr) (c cc : Nat) (C : Scs) (s : ByteArray) (w : World) (h2 : c ≤ 2000) (ht : ScIn w A c C) :
    Calls Tryz.prog 68 #[.slice A c cc, .string s] w fun e w' => e = .returned (.int .i64 (fnd C.Nm c s)) ∧ Below w.heap.size w w' := by
  obtain ⟨k, hk, hv⟩ := fnd_spec C.Nm c s
  generalize fnd C.Nm c s = v at hv ⊢
  have HT := Lib.hid ht
  have HK := Lib.hid hk
  have H2 := Lib.hid h2
  have HV := Lib.hid hv
  clear ht hk h2 hv
  go_enter Tryz.func68, Tryz.ntmps68
  go_wp2_with fail
  go_loopw [5] (fun u wr => ∃ i : Nat, Hid (i ≤ c ∧ i ≤ k) ∧ u = .int .i64 i ∧ Hid (Below w.heap.size w wr)) (fun u _ => c - (RowKit.intOf u).toNat)
  case atStart => exact ⟨0, ⟨Nat.zero_le _, Nat.zero_le _⟩, rfl, Below.refl _ _⟩
  case round =>
    obtain ⟨i, Hi, rfl, HW⟩ := hrel
    by_cases hlt : i < c
    · have T0 : decide ((i : Int) < (c : Int)) = true := by simp <;> omega
      have T0' : decide (i < c) = true := decide_eq_true hlt
      obtain ⟨i', hi'⟩ : ∃ z, z = i + 1 := ⟨_, rfl⟩
      have x0 : IntKind.i64.wrap ((i : Int) + 1) = (i' : Int) := by have := H2.out; rw [IntKind.wrap_i64]; omega
      obtain ⟨b, off, rfl, hb, hC, _⟩ := (HT.out.below (Nat.le_refl _) HW.out).at hlt
      have c0 := hC 0 _ rfl
      have k0 : (0 : Int) ≤ (i : Int) := by omega
      have k1 : (i : Int) < (c : Int) := by omega
      have HMS : Hid (c - (RowKit.intOf (Value.int .i64 (i' : Int))).toNat < c - (RowKit.intOf (Value.int .i64 (i : Int))).toNat) := by show _ < _; simp [RowKit.intOf]; omega
      simp only [Nat.add_zero] at c0
      rcases first_at HK.out hlt Hi.out.2 with ⟨hp, hik⟩ | ⟨hp, hik⟩
      · have HR : Hid ((i : Int) = v) := by show (i : Int) = v; rw [HV.out, hik, if_pos (by omega)]
        have e : C.Nm i = s := of_decide_eq_true hp
        rw [e] at c0
        clear hi' hp hik hC e
        go_wp2_with fail
        go_ret
        exact ⟨ret_int HR.out, HW.out⟩
      · have HI' : Hid (i' ≤ c ∧ i' ≤ k) := by show _ ∧ _; omega
        have e : C.Nm i ≠ s := of_decide_eq_false hp
        have u1 : ¬ (C.Nm i).toList = s.toList := fun h => e (bytes_ext h)
        have u2 : ((C.Nm i).toList == s.toList) = false := by simp [u1]
        clear hi' hp hik hC e
        go_wp2_with fail
        go_roundw
        case rel => exact ⟨i', HI', rfl, HW⟩
        case measure => exact HMS.out
    · have e : i = c := by have := Hi.out; omega
      have HR : Hid ((-1 : Int) = v) := by show (-1 : Int) = v; rw [HV.out, if_neg (by have := Hi.out; omega)]
      have T0 : decide ((i : Int) < (c : Int)) = false := by simp <;> omega
      have T0' : decide (i < c) = false := decide_eq_false hlt
      clear e hlt
      go_wp2_with fail
      go_ret
      exact ⟨ret_int HR.out, HW.out⟩
set_option maxRecDepth 100000 in
set_option maxHeartbeats 8000000 in
theorem rcat (A : Option Addr) (c cc : Nat) (C : Scs) (h2 : c ≤ 2000) (hn : ∀ k, k < c → (C.Nm k).size ≤ maxLen) (w : World) (hC : ScIn w A c C) :
    Calls Tryz.prog 38 #[.slice A c cc] w fun e w' => e = .returned (.bool (boolOf (catP C c))) ∧ Below w.heap.size w w' := by
  have HC := Lib.hid hC
  have HNM := Lib.hid hn
  have H2 := Lib.hid h2
  obtain ⟨V, hV⟩ : ∃ V, V = boolOf (catP C c) := ⟨_, rfl⟩
  rw [← hV]
  have HV := Lib.hid hV
  by_cases h1 : c ≤ 40
  case neg =>
    have t1 : decide ((40 : Int) < (c : Int)) = true := decide_eq_true (by omega)
    have t1' : decide (40 < c) = true := decide_eq_true (by omega)
    obtain rfl : V = false := by rw [hV]; exact boolOf_false fun h => h1 h.1
    clear hV HV hC hn h2 h1
    go_enter Tryz.func38, Tryz.ntmps38
    go_wp2_with fail
    go_ret
    exact ⟨rfl, by (repeat' (first | assumption | exact Below.refl _ _ | exact Below.size (by assumption) | (refine Below.setCell ?_ ?_ _) | (refine Below.alloc ?_ ?_ _) | (refine Below.drew ?_) | (refine below_drewN ?_ _) | (refine Below.trans ?_ (Below.mono ‹Below _ _ _› ?_)) | omega | (simp; done) | (simp; omega) | (simp at *; omega)))⟩
  have t1 : decide ((40 : Int) < (c : Int)) = false := decide_eq_false (by omega)
  have t1' : decide (40 < c) = false := decide_eq_false (by omega)
  have H1 := Lib.hid h1
  clear hV hC hn h2 h1
  go_enter Tryz.func38, Tryz.ntmps38
  go_wp2_with fail
  go_loopw [3] (fun u wr => ∃ i : Nat, Hid (i ≤ c) ∧ u = .int .i64 i ∧ Hid (∀ j, j < i → scnP C j) ∧ Hid (Below w.heap.size w wr)) (fun u _ => c - (RowKit.intOf u).toNat)
  case atStart => exact ⟨0, Nat.zero_le _, rfl, fun j hj => absurd hj (Nat.not_lt_zero _), Below.refl _ _⟩
  case round =>
    obtain ⟨i, Hi, rfl, HG, HW⟩ := hrel
    by_cases hlt : i < c
    · have T0 : decide ((i : Int) < (c : Int)) = true := by simp <;> omega
      have T0' : decide (i < c) = true := decide_eq_true hlt
      obtain ⟨i', hi'⟩ : ∃ z, z = i + 1 := ⟨_, rfl⟩
      have x0 : IntKind.i64.wrap ((i : Int) + 1) = (i' : Int) := by have := H2.out; rw [IntKind.wrap_i64]; omega
      have HI' : Hid (i' ≤ c) := by show i' ≤ c; omega
      have HMS : Hid (c - (RowKit.intOf (Value.int .i64 (i' : Int))).toNat < c - (RowKit.intOf (Value.int .i64 (i : Int))).toNat) := by show _ < _; simp [RowKit.intOf]; omega
      have k0 : (0 : Int) ≤ (i : Int) := by omega
      have k1 : (i : Int) < (c : Int) := by omega
      obtain ⟨b, off, rfl, hb, hCc, hta, htb⟩ := (HC.out.below (Nat.le_refl _) HW.out).at hlt
      have c0 := hCc 0 _ rfl
      have c1 := hCc 1 _ rfl
      have c2 := hCc 2 _ rfl
      have c3 := hCc 3 _ rfl
      have c4 := hCc 4 _ rfl
      simp only [Nat.add_zero] at c0
      have HTA := Lib.hid hta
      have HTB := Lib.hid htb
      have HCr := Lib.hid (HC.out.below (Nat.le_refl _) HW.out)
      have sv := fun w hA hB => rsright (C.Nm i) (C.Ht i) (C.Pr i) (C.AA i) (C.BA i) (C.AN i) (C.AC i) (C.BN i) (C.BC i) (C.AX i) (C.AY i) (C.BX i) (C.BY i) w (HNM.out i hlt) hA hB
      have sf := fun w hC => rfsec (some ⟨b, off, none⟩) c cc C (C.Nm i) w H2.out hC
      have HVF : Hid (¬ scnP C i → V = false) := fun h => by rw [HV.out]; exact boolOf_false fun g => h (g.2 i hlt)
      have HST : Hid (scnP C i → ∀ j, j < i' → scnP C j) := fun h j hj => by
        rcases Nat.lt_or_ge j i with g | g
        · exact HG.out j g
        · have : j = i := by omega
          rw [this]; exact h
      have hnp : boolOf (SecOK (C.Nm i).data.toList (C.Ht i) (C.Pr i) (C.AN i) (C.AX i) (C.AY i) (C.BN i) (C.BX i) (C.BY i)) = boolOf (secP C i) := rfl
      rw [hnp] at sv
      have hfs := fnd_self (X := C.Nm) hlt
      clear hi' hCc hta htb hnp hlt
      by_cases g1 : secP C i
      case neg =>
        obtain rfl : V = false := HVF.out fun h => g1 h.1
        rw [boolOf_false g1] at sv
        have SV := Lib.hid sv
        clear sv sf g1 hfs
        go_wp2_with (first
          | (go_at_call 67
             with_reducible refine (SV.out _ ?_ ?_).mono ?_
             focus (exact HTA.out.below (Nat.le_refl _) (by (repeat' (first | assumption | exact Below.refl _ _ | exact Below.size (by assumption) | (refine Below.setCell ?_ ?_ _) | (refine Below.alloc ?_ ?_ _) | (refine Below.drew ?_) | (refine below_drewN ?_ _) | (refine Below.trans ?_ (Below.mono ‹Below _ _ _› ?_)) | omega | (simp; done) | (simp; omega) | (simp at *; omega)))))
             focus (exact HTB.out.below (Nat.le_refl _) (by (repeat' (first | assumption | exact Below.refl _ _ | exact Below.size (by assumption) | (refine Below.setCell ?_ ?_ _) | (refine Below.alloc ?_ ?_ _) | (refine Below.drew ?_) | (refine below_drewN ?_ _) | (refine Below.trans ?_ (Below.mono ‹Below _ _ _› ?_)) | omega | (simp; done) | (simp; omega) | (simp at *; omega)))))
             rintro e w1 ⟨rfl, hb1⟩
             have HW1 := Lib.hid (below_step HW.out hb1)
             have f0 := (hb1.cell (p := ⟨b, off + i * 5, none⟩) hb).trans c0
             clear hb1))
        go_ret
        exact ⟨rfl, HW1.out⟩
      rw [boolOf_true g1] at sv
      have SV := Lib.hid sv
      by_cases g2 : fnd C.Nm c (C.Nm i) = (i : Int)
      case neg =>
        obtain rfl : V = false := HVF.out fun h => g2 (hfs.2 h.2)
        generalize fnd C.Nm c (C.Nm i) = v at sf g2
        have t5 : (v == (i : Int)) = false := by simpa using g2
        have t6 : (v != (i : Int)) = true := by simpa using g2
        have SF := Lib.hid sf
        clear sv sf g1 g2 hfs
        go_wp2_with (first
          | (go_at_call 67
             with_reducible refine (SV.out _ ?_ ?_).mono ?_
             focus (exact HTA.out.below (Nat.le_refl _) (by (repeat' (first | assumption | exact Below.refl _ _ | exact Below.size (by assumption) | (refine Below.setCell ?_ ?_ _) | (refine Below.alloc ?_ ?_ _) | (refine Below.drew ?_) | (refine below_drewN ?_ _) | (refine Below.trans ?_ (Below.mono ‹Below _ _ _› ?_)) | omega | (simp; done) | (simp; omega) | (simp at *; omega)))))
             focus (exact HTB.out.below (Nat.le_refl _) (by (repeat' (first | assumption | exact Below.refl _ _ | exact Below.size (by assumption) | (refine Below.setCell ?_ ?_ _) | (refine Below.alloc ?_ ?_ _) | (refine Below.drew ?_) | (refine below_drewN ?_ _) | (refine Below.trans ?_ (Below.mono ‹Below _ _ _› ?_)) | omega | (simp; done) | (simp; omega) | (simp at *; omega)))))
             rintro e w1 ⟨rfl, hb1⟩
             have HW1 := Lib.hid (below_step HW.out hb1)
             have f0 := (hb1.cell (p := ⟨b, off + i * 5, none⟩) hb).trans c0
             clear hb1)
          | (go_at_call 68
             with_reducible refine (SF.out _ ?_).mono ?_
             focus (exact HC.out.below (Nat.le_refl _) HW1.out)
             rintro e w2 ⟨rfl, hb2⟩
             have HW2 := Lib.hid (below_step HW1.out hb2)
             clear hb2))
        go_ret
        exact ⟨rfl, HW2.out⟩
      have HGD := Lib.hid (HST.out ⟨g1, hfs.1 g2⟩)
      rw [g2] at sf
      have SF := Lib.hid sf
      clear sv sf g1 g2 hfs
      go_wp2_with (first
        | (go_at_call 67
           with_reducible refine (SV.out _ ?_ ?_).mono ?_
           focus (exact HTA.out.below (Nat.le_refl _) (by (repeat' (first | assumption | exact Below.refl _ _ | exact Below.size (by assumption) | (refine Below.setCell ?_ ?_ _) | (refine Below.alloc ?_ ?_ _) | (refine Below.drew ?_) | (refine below_drewN ?_ _) | (refine Below.trans ?_ (Below.mono ‹Below _ _ _› ?_)) | omega | (simp; done) | (simp; omega) | (simp at *; omega)))))
           focus (exact HTB.out.below (Nat.le_refl _) (by (repeat' (first | assumption | exact Below.refl _ _ | exact Below.size (by assumption) | (refine Below.setCell ?_ ?_ _) | (refine Below.alloc ?_ ?_ _) | (refine Below.drew ?_) | (refine below_drewN ?_ _) | (refine Below.trans ?_ (Below.mono ‹Below _ _ _› ?_)) | omega | (simp; done) | (simp; omega) | (simp at *; omega)))))
           rintro e w1 ⟨rfl, hb1⟩
           have HW1 := Lib.hid (below_step HW.out hb1)
           have f0 := (hb1.cell (p := ⟨b, off + i * 5, none⟩) hb).trans c0
           clear hb1)
        | (go_at_call 68
           with_reducible refine (SF.out _ ?_).mono ?_
           focus (exact HC.out.below (Nat.le_refl _) HW1.out)
           rintro e w2 ⟨rfl, hb2⟩
           have HW2 := Lib.hid (below_step HW1.out hb2)
           clear hb2))
      go_roundw
      case rel => exact ⟨i', HI', rfl, HGD, HW2⟩
      case measure => exact HMS.out
    · have hin : i = c := by have := Hi.out; omega
      have T0 : decide ((i : Int) < (c : Int)) = false := by simp <;> omega
      have T0' : decide (i < c) = false := decide_eq_false hlt
      obtain rfl : V = true := by rw [HV.out]; exact boolOf_true ⟨H1.out, fun j hj => HG.out j (by omega)⟩
      clear hlt hin
      go_wp2_with fail
      go_ret
      exact ⟨rfl, HW.out⟩
/-- The error of a course and of its levels. -/
noncomputable def crsV (D : Nds) (n : Nat) (K : Lks) (m : Nat) (N : Nat → ByteArray) (p q : Nat) (Lo Hi : Nat → Int) : Int := if boolOf (vlP D n K m q Lo Hi) = true then crsE D n K m N p q else 1
theorem crsV_neg {D : Nds} {n : Nat} {K : Lks} {m : Nat} {N : Nat → ByteArray} {p q : Nat} {Lo Hi : Nat → Int} (h : ¬ vlP D n K m q Lo Hi) : crsV D n K m N p q Lo Hi = 1 := if_neg (by rw [boolOf_false h]; decide)
theorem crsV_pos {D : Nds} {n : Nat} {K : Lks} {m : Nat} {N : Nat → ByteArray} {p q : Nat} {Lo Hi : Nat → Int} (h : vlP D n K m q Lo Hi) : crsV D n K m N p q Lo Hi = crsE D n K m N p q := if_pos (boolOf_true h)
set_option maxRecDepth 100000 in
set_option maxHeartbeats 16000000 in
theorem rcourse (NA LA SA VA : Option Addr) (n nc m lc p pc q qc : Nat) (D : Nds) (K : Lks) (N : Nat → ByteArray) (Lw Hh : Nat → Int) (hz : NetSz D n K m) (p20 : p ≤ 2000) (q20 : q ≤ 2000) (w : World) (hD : NdIn w NA n D) (hK : LkIn w LA m K) (hN : StrIn w SA p N) (hV : TabIn w VA q Lw Hh) :
    Calls Tryz.prog 37 #[.agg #[.slice NA n nc, .slice LA m lc], .slice SA p pc, .slice VA q qc] w fun e w' => e = .returned (.int .i64 (crsV D n K m N p q Lw Hh)) ∧ Below w.heap.size w w' := by
  have HD := Lib.hid hD
  have HK := Lib.hid hK
  have HN := Lib.hid hN
  have HV := Lib.hid hV
  have P20 := Lib.hid p20
  have Q20 := Lib.hid q20
  have H0 : Hid (Below w.heap.size w (w.alloc (Obj.cells #[.slice NA n nc, .slice LA m lc] 25))) := (Below.refl _ w).alloc (Nat.le_refl _) _
  have HB0 := Lib.hid (Blk.new w 25 #[.slice NA n nc, .slice LA m lc])
  have SV := Lib.hid fun w hD hK => wvalidN NA LA n nc m lc D K hz w hD hK
  have SF := Lib.hid fun s w hD => r_node NA LA n nc m lc D s w hz.n2 hD
  have SB := Lib.hid fun s t w hK => rbtw NA LA n nc m lc K s t w hz.m2 hK
  obtain ⟨er, her⟩ : ∃ z, z = crsV D n K m N p q Lw Hh := ⟨_, rfl⟩
  rw [← her]
  have HER := Lib.hid her
  obtain ⟨f0, hf0⟩ : ∃ z, z = boolOf (netP D n K m) := ⟨_, rfl⟩
  rw [← hf0] at SV
  have HF0 := Lib.hid (iff_boolOf hf0)
  clear her hf0 hz hD hK hN hV p20 q20
  go_enter Tryz.func37, Tryz.ntmps37
  go_wp2_with (first
    | (go_at_call 65
       with_reducible refine (SV.out _ ?_ ?_).mono ?_
       focus (exact HD.out.below (Nat.le_refl _) H0.out)
       focus (exact HK.out.below (Nat.le_refl _) H0.out)
       rintro e w1 ⟨rfl, hb1⟩
       have H1 := Lib.hid (below_step H0.out hb1)
       have HB1 := Lib.hid (HB0.out.call hb1)
       clear hb1))
  clear HB0 H0 SV
  go_loopw [7, 8] (fun a u wr => ∃ (i : Nat) (f : Bool), Hid (i ≤ q) ∧ u = .int .i64 i ∧ a = .bool f ∧ Hid (f = true ↔ netP D n K m ∧ ∀ j, j < i → spP (Lw j) (Hh j)) ∧ Hid (Below w1.heap.size w1 wr)) (fun _ u _ => q - (RowKit.intOf u).toNat)
  case atStart => exact ⟨0, f0, Nat.zero_le _, rfl, rfl, ⟨fun h => ⟨HF0.out.2 h, fun j hj => absurd hj (Nat.not_lt_zero _)⟩, fun h => HF0.out.1 h.1⟩, Below.refl _ _⟩
  case round =>
    obtain ⟨i, f, Hi', rfl, rfl, HFF, HW⟩ := hrel
    have Hi := Hi'
    have HWW := Lib.hid (below_step H1.out HW.out)
    by_cases hlt : i < q
    · have T0 : decide ((i : Int) < (q : Int)) = true := by simp <;> omega
      have T0' : decide (i < q) = true := decide_eq_true hlt
      obtain ⟨i', hi'⟩ : ∃ z, z = i + 1 := ⟨_, rfl⟩
      have x0 : IntKind.i64.wrap ((i : Int) + 1) = (i' : Int) := by have := Q20.out; rw [IntKind.wrap_i64]; omega
      have HI' : Hid (i' ≤ q) := by show i' ≤ q; omega
      have HMS : Hid (q - (RowKit.intOf (Value.int .i64 (i' : Int))).toNat < q - (RowKit.intOf (Value.int .i64 (i : Int))).toNat) := by show _ < _; simp [RowKit.intOf]; omega
      have k0 : (0 : Int) ≤ (i : Int) := by omega
      have k1 : (i : Int) < (q : Int) := by omega
      obtain ⟨bv, ov, rfl, hbv, c0, c1⟩ := (HV.out.below (Nat.le_refl _) HWW.out).at hlt
      have HSX : Hid (∀ g : Bool, (g = true ↔ f = true ∧ spP (Lw i) (Hh i)) → (g = true ↔ netP D n K m ∧ ∀ j, j < i' → spP (Lw j) (Hh j))) := fun g hg => by
        constructor
        · intro h
          obtain ⟨a1, a2⟩ := hg.1 h
          obtain ⟨b1, b2⟩ := HFF.out.1 a1
          refine ⟨b1, fun j hj => ?_⟩
          rcases Nat.lt_or_ge j i with x | x
          · exact b2 j x
          · have : j = i := by omega
            rw [this]; exact a2
        · intro h
          exact hg.2 ⟨HFF.out.2 ⟨h.1, fun j hj => h.2 j (by omega)⟩, h.2 i (by omega)⟩
      clear hi' hlt
      cases f with
      | false =>
        have HG := Lib.hid (HSX.out false ⟨fun h => (by cases h), fun h => (by cases h.1)⟩)
        go_wp2_with fail
        go_roundw
        case rel => exact ⟨i', false, HI', rfl, rfl, HG, HW⟩
        case measure => exact HMS.out
      | true =>
        obtain ⟨g, hg⟩ : ∃ g, g = decide (spP (Lw i) (Hh i)) := ⟨_, rfl⟩
        have SS := Lib.hid fun w => rspan4 (Lw i) (Hh i) g hg w
        have HG := Lib.hid (HSX.out g ⟨fun h => ⟨rfl, by rw [hg] at h; exact of_decide_eq_true h⟩, fun h => by rw [hg]; exact decide_eq_true h.2⟩)
        clear hg
        go_wp2_with (first
          | (go_at_call 66
             with_reducible refine (SS.out _).mono ?_
             rintro e w2 ⟨rfl, hb2⟩
             have HW2 := Lib.hid (below_step HW.out hb2)
             clear hb2))
        go_roundw
        case rel => exact ⟨i', g, HI', rfl, rfl, HG, HW2⟩
        case measure => exact HMS.out
    · have T0 : decide ((i : Int) < (q : Int)) = false := by simp <;> omega
      have T0' : decide (i < q) = false := decide_eq_false hlt
      have hin : i = q := by have := Hi.out; omega
      have HVL : Hid (f = true ↔ vlP D n K m q Lw Hh) := by show _ ↔ _; rw [← hin]; exact HFF.out
      clear hlt hin
      cases f with
      | false =>
        have hne : ¬ vlP D n K m q Lw Hh := fun h => by have := HVL.out.2 h; cases this
        obtain rfl : er = 1 := by rw [HER.out]; exact crsV_neg hne
        clear hne
        go_wp2_with fail
        go_ret
        exact ⟨rfl, HWW.out⟩
      | true =>
        have HEE : Hid (er = crsE D n K m N p q) := by show er = _; rw [HER.out]; exact crsV_pos (HVL.out.1 rfl)
        have HBr := Lib.hid (HB1.out.call HW.out)
        obtain ⟨d0, d1⟩ := blk2 HBr.out
        by_cases g1 : q = n
        case neg =>
          obtain rfl : er = 3 := by rw [HEE.out]; exact crsE_size g1
          have t1 : ((q : Int) == (n : Int)) = false := by simp; omega
          have t1' : (q == n) = false := by simp; omega
          have t1n : ((q : Int) != (n : Int)) = true := by simp; omega
          have t1n' : (q != n) = true := by simp; omega
          clear g1
          go_wp2_with fail
          go_ret
          exact ⟨rfl, HWW.out⟩
        have t1 : ((q : Int) == (n : Int)) = true := by simp; omega
        have t1' : (q == n) = true := by simp; omega
        have t1n : ((q : Int) != (n : Int)) = false := by simp; omega
        have t1n' : (q != n) = false := by simp; omega
        by_cases g2 : p = 0
        case pos =>
          obtain rfl : er = 14 := by rw [HEE.out]; exact crsE_empty g1 g2
          have t2 : ((p : Int) == 0) = true := by simp; omega
          have t2' : (p == 0) = true := by simp; omega
          clear g1 g2
          go_wp2_with fail
          go_ret
          exact ⟨rfl, HWW.out⟩
        have t2 : ((p : Int) == 0) = false := by simp; omega
        have t2' : (p == 0) = false := by simp; omega
        by_cases g3 : 300 < p
        case pos =>
          obtain rfl : er = 4 := by rw [HEE.out]; exact crsE_full g1 g3
          have t3 : decide ((300 : Int) < (p : Int)) = true := decide_eq_true (by omega)
          have t3' : decide (300 < p) = true := decide_eq_true (by omega)
          clear g1 g2 g3
          go_wp2_with fail
          go_ret
          exact ⟨rfl, HWW.out⟩
        have t3 : decide ((300 : Int) < (p : Int)) = false := decide_eq_false (by omega)
        have t3' : decide (300 < p) = false := decide_eq_false (by omega)
        have GQ := Lib.hid g1
        have HP : Hid (1 ≤ p ∧ p ≤ 300) := by show _ ∧ _; omega
        obtain ⟨w2, hw2⟩ : ∃ z, z = wr := ⟨_, rfl⟩
        rw [← hw2] at HBr HWW d0 d1 ⊢
        clear g1 g2 g3 hw2 HW HB1 HFF HVL HV
        go_wp2_with fail
        go_loopw [9] (fun u wr => ∃ (i : Nat), Hid (i ≤ p) ∧ u = .int .i64 i ∧ Hid (∀ j, j < i → fnd D.Nm n (N j) ≠ -1) ∧ Hid (Below w2.heap.size w2 wr)) (fun u _ => p - (RowKit.intOf u).toNat)
        case atStart => exact ⟨0, Nat.zero_le _, rfl, fun j hj => absurd hj (Nat.not_lt_zero _), Below.refl _ _⟩
        case round =>
          obtain ⟨i, Hi, rfl, HF, HW⟩ := hrel
          have HWr := Lib.hid (below_step HWW.out HW.out)
          have HBi := Lib.hid (HBr.out.call HW.out)
          by_cases hlt : i < p
          · have T0 : decide ((i : Int) < (p : Int)) = true := by simp <;> omega
            have T0' : decide (i < p) = true := decide_eq_true hlt
            obtain ⟨i', hi'⟩ : ∃ z, z = i + 1 := ⟨_, rfl⟩
            have x0 : IntKind.i64.wrap ((i : Int) + 1) = (i' : Int) := by have := HP.out; rw [IntKind.wrap_i64]; omega
            have HI' : Hid (i' ≤ p) := by show i' ≤ p; omega
            have HMS : Hid (p - (RowKit.intOf (Value.int .i64 (i' : Int))).toNat < p - (RowKit.intOf (Value.int .i64 (i : Int))).toNat) := by show _ < _; simp [RowKit.intOf]; omega
            have k0 : (0 : Int) ≤ (i : Int) := by omega
            have k1 : (i : Int) < (p : Int) := by omega
            obtain ⟨b, off, rfl, hb, c0⟩ := (HN.out.below (Nat.le_refl _) HWr.out).at hlt
            have HDr := Lib.hid (HD.out.below (Nat.le_refl _) HWr.out)
            have HS : Hid (∀ w', Below wr.heap.size wr w' → w'.cell? ⟨w.heap.size, 0, none⟩ = some (.slice NA n nc) ∧ w'.cell? ⟨w.heap.size, 1, none⟩ = some (.slice LA m lc) ∧ w'.cell? ⟨b, off + i, none⟩ = some (.string (N i))) := fun w' hb' => ⟨(HBi.out.call hb').cell 0, (HBi.out.call hb').cell 1, (hb'.cell (p := ⟨b, off + i, none⟩) hb).trans c0⟩
            have hs0 := HS.out wr (Below.refl _ _)
            have HLT := Lib.hid hlt
            have HST : Hid (fnd D.Nm n (N i) ≠ -1 → ∀ j, j < i' → fnd D.Nm n (N j) ≠ -1) := fun h j hj => by
              rcases Nat.lt_or_ge j i with g | g
              · exact HF.out j g
              · have : j = i := by omega
                rw [this]; exact h
            have S1 := Lib.hid fun w hD => SF.out (N i) w hD
            obtain ⟨v, hv⟩ : ∃ z, z = fnd D.Nm n (N i) := ⟨_, rfl⟩
            rw [← hv] at S1
            have HVV := Lib.hid hv
            have hbd := fnd_bd D.Nm n (N i)
            rw [← hv] at hbd
            have HBD : Hid (v = -1 ∨ 0 ≤ v) := by
              rcases hbd with h | ⟨k, _, h, _⟩
              · exact .inl h
              · exact .inr (by rw [h]; omega)
            clear hi' hlt c0 hb hbd hv
            by_cases g : v = -1
            case pos =>
              obtain rfl : er = 9 := by rw [HEE.out]; exact crsE_name GQ.out HP.out.1 HP.out.2 ⟨i, HLT.out, HVV.out.symm.trans g⟩
              have T9 : decide (v < 0) = true := decide_eq_true (by omega)
              clear g
              go_upto_region 17 with fail
              go_region_held3 (fun w' => w'.cell? ⟨w.heap.size, 0, none⟩ = some (.slice NA n nc) ∧ w'.cell? ⟨w.heap.size, 1, none⟩ = some (.slice LA m lc) ∧ w'.cell? ⟨b, off + i, none⟩ = some (.string (N i))) (first
                | exact hs0
                | exact HS.out _ (by (repeat' (first | assumption | exact Below.refl _ _ | exact Below.size (by assumption) | (refine Below.setCell ?_ ?_ _) | (refine Below.alloc ?_ ?_ _) | (refine Below.drew ?_) | (refine below_drewN ?_ _) | (refine Below.trans ?_ (Below.mono ‹Below _ _ _› ?_)) | omega | (simp; done) | (simp; omega) | (simp at *; omega))))) (first
                | (go_at_call 18
                   with_reducible refine (S1.out _ ?_).mono ?_
                   focus (exact HDr.out.below (Nat.le_refl _) (by (repeat' (first | assumption | exact Below.refl _ _ | exact Below.size (by assumption) | (refine Below.setCell ?_ ?_ _) | (refine Below.alloc ?_ ?_ _) | (refine Below.drew ?_) | (refine below_drewN ?_ _) | (refine Below.trans ?_ (Below.mono ‹Below _ _ _› ?_)) | omega | (simp; done) | (simp; omega) | (simp at *; omega)))))
                   rintro e w3 ⟨rfl, hb3⟩
                   have hq3 : Below wr.heap.size wr w3 := Below.trans (by (repeat' (first | assumption | exact Below.refl _ _ | exact Below.size (by assumption) | (refine Below.setCell ?_ ?_ _) | (refine Below.alloc ?_ ?_ _) | (refine Below.drew ?_) | (refine below_drewN ?_ _) | (refine Below.trans ?_ (Below.mono ‹Below _ _ _› ?_)) | omega | (simp; done) | (simp; omega) | (simp at *; omega)))) (hb3.mono (by simp <;> omega))
                   clear hb3))
              all_goals (have HW3 := Lib.hid (below_step HW.out hq3); clear hs0 hq3; go_wp2_with fail; go_ret; exact ⟨rfl, below_step HWW.out HW3.out⟩)
            have T9 : decide (v < 0) = false := decide_eq_false (by have := HBD.out; omega)
            have HNX := Lib.hid (HST.out (by rw [← HVV.out]; exact g))
            clear g
            go_upto_region 17 with fail
            go_region_held3 (fun w' => w'.cell? ⟨w.heap.size, 0, none⟩ = some (.slice NA n nc) ∧ w'.cell? ⟨w.heap.size, 1, none⟩ = some (.slice LA m lc) ∧ w'.cell? ⟨b, off + i, none⟩ = some (.string (N i))) (first
              | exact hs0
              | exact HS.out _ (by (repeat' (first | assumption | exact Below.refl _ _ | exact Below.size (by assumption) | (refine Below.setCell ?_ ?_ _) | (refine Below.alloc ?_ ?_ _) | (refine Below.drew ?_) | (refine below_drewN ?_ _) | (refine Below.trans ?_ (Below.mono ‹Below _ _ _› ?_)) | omega | (simp; done) | (simp; omega) | (simp at *; omega))))) (first
              | (go_at_call 18
                 with_reducible refine (S1.out _ ?_).mono ?_
                 focus (exact HDr.out.below (Nat.le_refl _) (by (repeat' (first | assumption | exact Below.refl _ _ | exact Below.size (by assumption) | (refine Below.setCell ?_ ?_ _) | (refine Below.alloc ?_ ?_ _) | (refine Below.drew ?_) | (refine below_drewN ?_ _) | (refine Below.trans ?_ (Below.mono ‹Below _ _ _› ?_)) | omega | (simp; done) | (simp; omega) | (simp at *; omega)))))
                 rintro e w3 ⟨rfl, hb3⟩
                 have hq3 : Below wr.heap.size wr w3 := Below.trans (by (repeat' (first | assumption | exact Below.refl _ _ | exact Below.size (by assumption) | (refine Below.setCell ?_ ?_ _) | (refine Below.alloc ?_ ?_ _) | (refine Below.drew ?_) | (refine below_drewN ?_ _) | (refine Below.trans ?_ (Below.mono ‹Below _ _ _› ?_)) | omega | (simp; done) | (simp; omega) | (simp at *; omega)))) (hb3.mono (by simp <;> omega))
                 clear hb3))
            all_goals (have HW3 := Lib.hid (below_step HW.out hq3); clear hs0 hq3; go_wp2_with fail; go_roundw; (case rel => exact ⟨i', HI', rfl, HNX, HW3⟩); (case measure => exact HMS.out))
          · have T0 : decide ((i : Int) < (p : Int)) = false := by simp <;> omega
            have T0' : decide (i < p) = false := decide_eq_false hlt
            have hin : i = p := by have := Hi.out; omega
            have HFA : Hid (∀ j, j < p → fnd D.Nm n (N j) ≠ -1) := by show ∀ j, _; rw [← hin]; exact HF.out
            obtain ⟨w4, hw4⟩ : ∃ z, z = wr := ⟨_, rfl⟩
            rw [← hw4] at HBi HWr ⊢
            clear hlt hin hw4 HW HF
            go_wp2_with fail
            go_loopw [10] (fun u wr => ∃ (i : Nat), Hid (i + 1 ≤ p) ∧ u = .int .i64 i ∧ Hid (∀ j, j < i → btw K m (N j) (N (j + 1)) ≠ -1) ∧ Hid (Below w4.heap.size w4 wr)) (fun u _ => p - (RowKit.intOf u).toNat)
            case atStart => exact ⟨0, HP.out.1, rfl, fun j hj => absurd hj (Nat.not_lt_zero _), Below.refl _ _⟩
            case round =>
              obtain ⟨i, Hi, rfl, HG, HW⟩ := hrel
              have HWq := Lib.hid (below_step HWr.out HW.out)
              have HBj := Lib.hid (HBi.out.call HW.out)
              obtain ⟨i', hi'⟩ : ∃ z, z = i + 1 := ⟨_, rfl⟩
              have x0 : IntKind.i64.wrap ((i : Int) + 1) = (i' : Int) := by have := HP.out; have := Hi.out; rw [IntKind.wrap_i64]; omega
              by_cases hlt : i' < p
              · have T0 : decide ((i' : Int) < (p : Int)) = true := by simp <;> omega
                have T0' : decide (i' < p) = true := decide_eq_true hlt
                have HI' : Hid (i' + 1 ≤ p) := by show i' + 1 ≤ p; omega
                have HMS : Hid (p - (RowKit.intOf (Value.int .i64 (i' : Int))).toNat < p - (RowKit.intOf (Value.int .i64 (i : Int))).toNat) := by show _ < _; simp [RowKit.intOf]; omega
                have k0 : (0 : Int) ≤ (i : Int) := by omega
                have k1 : (i : Int) < (p : Int) := by omega
                have k2 : (0 : Int) ≤ (i' : Int) := by omega
                have k3 : (i' : Int) < (p : Int) := by omega
                obtain ⟨b, off, hA1, hb, c0⟩ := (HN.out.below (Nat.le_refl _) HWq.out).at (k := i) (by omega)
                obtain ⟨b2, off2, hA2, hb2, c1⟩ := (HN.out.below (Nat.le_refl _) HWq.out).at hlt
                subst hA1
                injection hA2 with hA2
                injection hA2 with hA2 hA3 _
                subst hA2 hA3
                have HKr := Lib.hid (HK.out.below (Nat.le_refl _) HWq.out)
                have HS : Hid (∀ w', Below wr.heap.size wr w' → w'.cell? ⟨w.heap.size, 0, none⟩ = some (.slice NA n nc) ∧ w'.cell? ⟨w.heap.size, 1, none⟩ = some (.slice LA m lc) ∧ w'.cell? ⟨b, off + i, none⟩ = some (.string (N i)) ∧ w'.cell? ⟨b, off + i', none⟩ = some (.string (N i'))) := fun w' hb' => ⟨(HBj.out.call hb').cell 0, (HBj.out.call hb').cell 1, (hb'.cell (p := ⟨b, off + i, none⟩) hb).trans c0, (hb'.cell (p := ⟨b, off + i', none⟩) hb).trans c1⟩
                have hs0 := HS.out wr (Below.refl _ _)
                have HLT := Lib.hid hlt
                have HII : Hid (i + 1 = i') := hi'.symm
                have HST : Hid (btw K m (N i) (N i') ≠ -1 → ∀ j, j < i' → btw K m (N j) (N (j + 1)) ≠ -1) := fun h j hj => by
                  rcases Nat.lt_or_ge j i with g | g
                  · exact HG.out j g
                  · have : j = i := by omega
                    rw [this, HII.out]; exact h
                have S1 := Lib.hid fun w hK => SB.out (N i) (N i') w hK
                obtain ⟨v, hv⟩ : ∃ z, z = btw K m (N i) (N i') := ⟨_, rfl⟩
                rw [← hv] at S1
                have HVV := Lib.hid hv
                have hbd := fst1_bd (btwP K (N i) (N i')) m
                have hv2 : v = fst1 (btwP K (N i) (N i')) m := hv
                rw [← hv2] at hbd
                have HBD : Hid (v = -1 ∨ 0 ≤ v) := by
                  rcases hbd with h | ⟨k, _, h, _⟩
                  · exact .inl h
                  · exact .inr (by rw [h]; omega)
                clear hi' hlt c0 c1 hb hb2 hbd hv hv2
                by_cases g : v = -1
                case pos =>
                  obtain rfl : er = 24 := by rw [HEE.out]; exact crsE_gap GQ.out HP.out.1 HP.out.2 HFA.out ⟨i, by have := HLT.out; have := HII.out; omega, by rw [HII.out]; exact HVV.out.symm.trans g⟩
                  have T9 : decide (v < 0) = true := decide_eq_true (by omega)
                  clear g
                  go_upto_region 22 with fail
                  go_region_held3 (fun w' => w'.cell? ⟨w.heap.size, 0, none⟩ = some (.slice NA n nc) ∧ w'.cell? ⟨w.heap.size, 1, none⟩ = some (.slice LA m lc) ∧ w'.cell? ⟨b, off + i, none⟩ = some (.string (N i)) ∧ w'.cell? ⟨b, off + i', none⟩ = some (.string (N i'))) (first
                    | exact hs0
                    | exact HS.out _ (by (repeat' (first | assumption | exact Below.refl _ _ | exact Below.size (by assumption) | (refine Below.setCell ?_ ?_ _) | (refine Below.alloc ?_ ?_ _) | (refine Below.drew ?_) | (refine below_drewN ?_ _) | (refine Below.trans ?_ (Below.mono ‹Below _ _ _› ?_)) | omega | (simp; done) | (simp; omega) | (simp at *; omega))))) (first
                    | (go_at_call 41
                       with_reducible refine (S1.out _ ?_).mono ?_
                       focus (exact HKr.out.below (Nat.le_refl _) (by (repeat' (first | assumption | exact Below.refl _ _ | exact Below.size (by assumption) | (refine Below.setCell ?_ ?_ _) | (refine Below.alloc ?_ ?_ _) | (refine Below.drew ?_) | (refine below_drewN ?_ _) | (refine Below.trans ?_ (Below.mono ‹Below _ _ _› ?_)) | omega | (simp; done) | (simp; omega) | (simp at *; omega)))))
                       rintro e w3 ⟨rfl, hb3⟩
                       have hq3 : Below wr.heap.size wr w3 := Below.trans (by (repeat' (first | assumption | exact Below.refl _ _ | exact Below.size (by assumption) | (refine Below.setCell ?_ ?_ _) | (refine Below.alloc ?_ ?_ _) | (refine Below.drew ?_) | (refine below_drewN ?_ _) | (refine Below.trans ?_ (Below.mono ‹Below _ _ _› ?_)) | omega | (simp; done) | (simp; omega) | (simp at *; omega)))) (hb3.mono (by simp <;> omega))
                       clear hb3))
                  all_goals (have HW3 := Lib.hid (below_step HW.out hq3); clear hs0 hq3; go_wp2_with fail; go_ret; exact ⟨rfl, below_step HWr.out HW3.out⟩)
                have T9 : decide (v < 0) = false := decide_eq_false (by have := HBD.out; omega)
                have HNX := Lib.hid (HST.out (by rw [← HVV.out]; exact g))
                clear g
                go_upto_region 22 with fail
                go_region_held3 (fun w' => w'.cell? ⟨w.heap.size, 0, none⟩ = some (.slice NA n nc) ∧ w'.cell? ⟨w.heap.size, 1, none⟩ = some (.slice LA m lc) ∧ w'.cell? ⟨b, off + i, none⟩ = some (.string (N i)) ∧ w'.cell? ⟨b, off + i', none⟩ = some (.string (N i'))) (first
                  | exact hs0
                  | exact HS.out _ (by (repeat' (first | assumption | exact Below.refl _ _ | exact Below.size (by assumption) | (refine Below.setCell ?_ ?_ _) | (refine Below.alloc ?_ ?_ _) | (refine Below.drew ?_) | (refine below_drewN ?_ _) | (refine Below.trans ?_ (Below.mono ‹Below _ _ _› ?_)) | omega | (simp; done) | (simp; omega) | (simp at *; omega))))) (first
                  | (go_at_call 41
                     with_reducible refine (S1.out _ ?_).mono ?_
                     focus (exact HKr.out.below (Nat.le_refl _) (by (repeat' (first | assumption | exact Below.refl _ _ | exact Below.size (by assumption) | (refine Below.setCell ?_ ?_ _) | (refine Below.alloc ?_ ?_ _) | (refine Below.drew ?_) | (refine below_drewN ?_ _) | (refine Below.trans ?_ (Below.mono ‹Below _ _ _› ?_)) | omega | (simp; done) | (simp; omega) | (simp at *; omega)))))
                     rintro e w3 ⟨rfl, hb3⟩
                     have hq3 : Below wr.heap.size wr w3 := Below.trans (by (repeat' (first | assumption | exact Below.refl _ _ | exact Below.size (by assumption) | (refine Below.setCell ?_ ?_ _) | (refine Below.alloc ?_ ?_ _) | (refine Below.drew ?_) | (refine below_drewN ?_ _) | (refine Below.trans ?_ (Below.mono ‹Below _ _ _› ?_)) | omega | (simp; done) | (simp; omega) | (simp at *; omega)))) (hb3.mono (by simp <;> omega))
                     clear hb3))
                all_goals (have HW3 := Lib.hid (below_step HW.out hq3); clear hs0 hq3; go_wp2_with fail; go_roundw; (case rel => exact ⟨i', HI', rfl, HNX, HW3⟩); (case measure => exact HMS.out))
              · have T0 : decide ((i' : Int) < (p : Int)) = false := by simp <;> omega
                have T0' : decide (i' < p) = false := decide_eq_false hlt
                obtain rfl : er = 0 := by rw [HEE.out]; exact crsE_ok GQ.out HP.out.1 HP.out.2 HFA.out (fun j hj => HG.out j (by omega))
                clear hi' hlt
                go_wp2_with fail
                go_ret
                exact ⟨rfl, HWq.out⟩
end Go.Proofs.YtdgfljkhnifemaaGreatDoor

/- slices.ContainsFunc at the closures that look at the sizes of networks and states (law 55). -/
import Derived.Test.YtdgfljkhnifemaaGreatDoorNetF
import Derived.Test.YtdgfljkhnifemaaGreatDoorMgD
namespace Go.Proofs.YtdgfljkhnifemaaGreatDoor
open Go.RowKit
set_option linter.unusedVariables false
set_option linter.unusedSimpArgs false

set_option maxRecDepth 100000 in
theorem p_lnode (nm : ByteArray) (kd ax ay iv gd : Int) (A : Option Addr) (n c : Nat) (pt : Bool) (rs : Int) (f : Bool) (hf : f = decide (20 < n ∨ 60 < nm.size)) (w : World) : Calls Tryz.prog 21 #[.agg #[.string nm, .int .i64 kd, .int .i64 ax, .int .i64 ay, .int .i64 iv, .int .i64 gd, .slice A n c, .bool pt, .int .i64 rs]] w fun e w' => e = .returned (.bool f) ∧ Below w.heap.size w w' := by
  subst hf
  by_cases h0 : 20 < n
  case pos =>
    have t0_0 : decide ((20 : Int) < (n : Int)) = true := decide_eq_true (by omega)
    have t0_1 : decide (20 < n) = true := decide_eq_true (by omega)
    rw [decide_eq_true (Or.inl h0)]
    clear h0
    go_enter Tryz.func21, Tryz.ntmps21
    go_wp2_with fail
    go_ret
    exact ⟨rfl, by (repeat' (first | assumption | exact Below.refl _ _ | exact Below.size (by assumption) | (refine Below.setCell ?_ ?_ _) | (refine Below.alloc ?_ ?_ _) | (refine Below.drew ?_) | (refine below_drewN ?_ _) | (refine Below.trans ?_ (Below.mono ‹Below _ _ _› ?_)) | omega | (simp; done) | (simp; omega) | (simp at *; omega)))⟩
  have t0_0 : decide ((20 : Int) < (n : Int)) = false := decide_eq_false (by omega)
  have t0_1 : decide (20 < n) = false := decide_eq_false (by omega)
  by_cases h1 : 60 < nm.size
  case pos =>
    have t1_0 : decide ((60 : Int) < (nm.size : Int)) = true := decide_eq_true (by omega)
    have t1_1 : decide (60 < nm.size) = true := decide_eq_true (by omega)
    rw [decide_eq_true (Or.inr (h1))]
    clear h0 h1
    go_enter Tryz.func21, Tryz.ntmps21
    go_wp2_with fail
    go_ret
    exact ⟨rfl, by (repeat' (first | assumption | exact Below.refl _ _ | exact Below.size (by assumption) | (refine Below.setCell ?_ ?_ _) | (refine Below.alloc ?_ ?_ _) | (refine Below.drew ?_) | (refine below_drewN ?_ _) | (refine Below.trans ?_ (Below.mono ‹Below _ _ _› ?_)) | omega | (simp; done) | (simp; omega) | (simp at *; omega)))⟩
  have t1_0 : decide ((60 : Int) < (nm.size : Int)) = false := decide_eq_false (by omega)
  have t1_1 : decide (60 < nm.size) = false := decide_eq_false (by omega)
  rw [decide_eq_false (show ¬ (20 < n ∨ 60 < nm.size) by omega)]
  clear h0 h1
  go_enter Tryz.func21, Tryz.ntmps21
  go_wp2_with fail
  go_ret
  exact ⟨rfl, by (repeat' (first | assumption | exact Below.refl _ _ | exact Below.size (by assumption) | (refine Below.setCell ?_ ?_ _) | (refine Below.alloc ?_ ?_ _) | (refine Below.drew ?_) | (refine below_drewN ?_ _) | (refine Below.trans ?_ (Below.mono ‹Below _ _ _› ?_)) | omega | (simp; done) | (simp; omega) | (simp at *; omega)))⟩
set_option maxRecDepth 100000 in
set_option maxHeartbeats 2000000 in
theorem find_lnode (A : Option Addr) (n c k : Nat) (D : Nds) (w : World) (h2 : n ≤ 2000) (ht : NdIn w A n D) (hk : FirstAt (fun j => decide (20 < D.SN j ∨ 60 < (D.Nm j).size)) n k) (v : Int) (hv : v = if k < n then (k : Int) else -1) :
    Calls Tryz.prog 52 #[.slice A n c, .func (.func 21) #[] #[]] w fun e w' => e = .returned (.int .i64 v) ∧ Below w.heap.size w w' := by
  have HT := Lib.hid ht
  have HK := Lib.hid hk
  have H2 := Lib.hid h2
  have HV := Lib.hid hv
  clear ht hk h2 hv
  go_enter Tryz.func52, Tryz.ntmps52
  go_wp2_with fail
  go_loopw [8] (fun u wr => ∃ i : Nat, Hid (i ≤ n ∧ i ≤ k) ∧ u = .int .i64 i ∧ Hid (Below w.heap.size w wr)) (fun u _ => n - (RowKit.intOf u).toNat)
  case atStart => exact ⟨0, ⟨Nat.zero_le _, Nat.zero_le _⟩, rfl, Below.refl _ _⟩
  case round =>
    obtain ⟨i, Hi, rfl, HW⟩ := hrel
    by_cases hlt : i < n
    · have T0 : decide ((i : Int) < (n : Int)) = true := by simp <;> omega
      have T0' : decide (i < n) = true := decide_eq_true hlt
      obtain ⟨i', hi'⟩ : ∃ z, z = i + 1 := ⟨_, rfl⟩
      have x0 : IntKind.i64.wrap ((i : Int) + 1) = (i' : Int) := by have := H2.out; rw [IntKind.wrap_i64]; omega
      obtain ⟨b, off, rfl, hb, hC, _⟩ := (HT.out.below (Nat.le_refl _) HW.out).at hlt
      have c0 := hC 0 _ rfl
      have c1 := hC 1 _ rfl
      have c2 := hC 2 _ rfl
      have c3 := hC 3 _ rfl
      have c4 := hC 4 _ rfl
      have c5 := hC 5 _ rfl
      have c6 := hC 6 _ rfl
      have c7 := hC 7 _ rfl
      have c8 := hC 8 _ rfl
      simp only [Nat.add_zero] at c0
      clear hC
      have k0 : (0 : Int) ≤ (i : Int) := by omega
      have k1 : (i : Int) < (n : Int) := by omega
      have HMS : Hid (n - (RowKit.intOf (Value.int .i64 (i' : Int))).toNat < n - (RowKit.intOf (Value.int .i64 (i : Int))).toNat) := by show _ < _; simp [RowKit.intOf]; omega
      rcases first_at HK.out hlt Hi.out.2 with ⟨hp, hik⟩ | ⟨hp, hik⟩
      · have KK := Lib.hid fun w => (p_lnode (D.Nm i) (D.Kd i) (D.Ax i) (D.Ay i) (D.Iv i) (D.Gd i) (D.SA i) (D.SN i) (D.SC i) (D.Pt i) (D.Rs i) true hp.symm w)
        have HR : Hid ((i : Int) = v) := by show (i : Int) = v; rw [HV.out, hik, if_pos (by omega)]
        clear hi' hp hik
        go_wp2_with (first | (go_at_call 21; (with_reducible refine (KK.out _).mono ?_); rintro e w1 ⟨rfl, hb1⟩; obtain ⟨hc1, hf1⟩ := bcell hb1; have hz1 := hb1.size; (try simp at hz1); (try simp only [heap_drew, World.heap_drewN] at hz1); (try simp only [heap_drew, World.heap_drewN] at hc1); (try simp only [heap_drew, World.heap_drewN] at hf1); (try have hs1 := Nat.lt_of_succ_le hz1); (try have hs2 := Nat.lt_of_succ_lt hs1); (try have y0 : w.heap.size < w1.heap.size := by omega); (try have y1 : w.heap.size + 1 < w1.heap.size := by omega); (try have y2 : w.heap.size + 2 < w1.heap.size := by omega)))
        go_ret
        refine ⟨ret_int HR.out, ?_⟩
        have := HW.out
        (repeat' (first | assumption | exact Below.refl _ _ | exact Below.size (by assumption) | (refine Below.setCell ?_ ?_ _) | (refine Below.alloc ?_ ?_ _) | (refine Below.drew ?_) | (refine below_drewN ?_ _) | (refine Below.trans ?_ (Below.mono ‹Below _ _ _› ?_)) | omega | (simp; done) | (simp; omega) | (simp at *; omega)))
      · have KK := Lib.hid fun w => (p_lnode (D.Nm i) (D.Kd i) (D.Ax i) (D.Ay i) (D.Iv i) (D.Gd i) (D.SA i) (D.SN i) (D.SC i) (D.Pt i) (D.Rs i) false hp.symm w)
        have HI' : Hid (i' ≤ n ∧ i' ≤ k) := by show _ ∧ _; omega
        clear hi' hp hik
        go_wp2_with (first | (go_at_call 21; (with_reducible refine (KK.out _).mono ?_); rintro e w1 ⟨rfl, hb1⟩; obtain ⟨hc1, hf1⟩ := bcell hb1; have hz1 := hb1.size; (try simp at hz1); (try simp only [heap_drew, World.heap_drewN] at hz1); (try simp only [heap_drew, World.heap_drewN] at hc1); (try simp only [heap_drew, World.heap_drewN] at hf1); (try have hs1 := Nat.lt_of_succ_le hz1); (try have hs2 := Nat.lt_of_succ_lt hs1); (try have y0 : w.heap.size < w1.heap.size := by omega); (try have y1 : w.heap.size + 1 < w1.heap.size := by omega); (try have y2 : w.heap.size + 2 < w1.heap.size := by omega)))
        go_roundw
        case rel => exact ⟨i', HI', rfl, by have := HW.out; (repeat' (first | assumption | exact Below.refl _ _ | exact Below.size (by assumption) | (refine Below.setCell ?_ ?_ _) | (refine Below.alloc ?_ ?_ _) | (refine Below.drew ?_) | (refine below_drewN ?_ _) | (refine Below.trans ?_ (Below.mono ‹Below _ _ _› ?_)) | omega | (simp; done) | (simp; omega) | (simp at *; omega)))⟩
        case measure => exact HMS.out
    · have e : i = n := by have := Hi.out; omega
      have HR : Hid ((-1 : Int) = v) := by show (-1 : Int) = v; rw [HV.out, if_neg (by have := Hi.out; omega)]
      have T0 : decide ((i : Int) < (n : Int)) = false := by simp <;> omega
      have T0' : decide (i < n) = false := decide_eq_false hlt
      clear e hlt
      go_wp2_with fail
      go_ret
      exact ⟨ret_int HR.out, HW.out⟩
theorem has_lnode (A : Option Addr) (n c : Nat) (D : Nds) (w : World) (h2 : n ≤ 2000) (ht : NdIn w A n D) (f : Bool) (hf : f = true ↔ ∃ j, j < n ∧ (fun j => decide (20 < D.SN j ∨ 60 < (D.Nm j).size)) j = true) :
    Calls Tryz.prog 20 #[.slice A n c, .func (.func 21) #[] #[]] w fun e w' => e = .returned (.bool f) ∧ Below w.heap.size w w' := by
  obtain ⟨k, hk⟩ := first_ex (fun j => decide (20 < D.SN j ∨ 60 < (D.Nm j).size)) n
  have hany := first_any hk
  have S := Lib.hid (find_lnode A n c k D w h2 ht hk _ rfl)
  by_cases hkn : k < n
  · have hft : f = true := hf.2 (hany.1 hkn)
    rw [if_pos hkn] at S
    have t : decide ((0 : Int) ≤ (k : Int)) = true := decide_eq_true (by omega)
    subst hft
    clear hk hany hkn hf ht h2
    go_enter Tryz.func20, Tryz.ntmps20
    go_wp2_with (first | (go_at_call 52; (with_reducible refine (S.out).mono ?_); rintro e w1 ⟨rfl, hb1⟩; obtain ⟨hc1, hf1⟩ := bcell hb1; have hz1 := hb1.size; (try simp at hz1); (try simp only [heap_drew, World.heap_drewN] at hz1); (try simp only [heap_drew, World.heap_drewN] at hc1); (try simp only [heap_drew, World.heap_drewN] at hf1); (try have hs1 := Nat.lt_of_succ_le hz1); (try have hs2 := Nat.lt_of_succ_lt hs1); (try have y0 : w.heap.size < w1.heap.size := by omega); (try have y1 : w.heap.size + 1 < w1.heap.size := by omega); (try have y2 : w.heap.size + 2 < w1.heap.size := by omega)))
    go_ret
    refine ⟨rfl, ?_⟩
    (repeat' (first | assumption | exact Below.refl _ _ | exact Below.size (by assumption) | (refine Below.setCell ?_ ?_ _) | (refine Below.alloc ?_ ?_ _) | (refine Below.drew ?_) | (refine below_drewN ?_ _) | (refine Below.trans ?_ (Below.mono ‹Below _ _ _› ?_)) | omega | (simp; done) | (simp; omega) | (simp at *; omega)))
  · have hft : f = false := by
      cases f with
      | false => rfl
      | true => exact absurd (hany.2 (hf.1 rfl)) hkn
    rw [if_neg hkn] at S
    subst hft
    clear hk hany hkn hf ht h2
    go_enter Tryz.func20, Tryz.ntmps20
    go_wp2_with (first | (go_at_call 52; (with_reducible refine (S.out).mono ?_); rintro e w1 ⟨rfl, hb1⟩; obtain ⟨hc1, hf1⟩ := bcell hb1; have hz1 := hb1.size; (try simp at hz1); (try simp only [heap_drew, World.heap_drewN] at hz1); (try simp only [heap_drew, World.heap_drewN] at hc1); (try simp only [heap_drew, World.heap_drewN] at hf1); (try have hs1 := Nat.lt_of_succ_le hz1); (try have hs2 := Nat.lt_of_succ_lt hs1); (try have y0 : w.heap.size < w1.heap.size := by omega); (try have y1 : w.heap.size + 1 < w1.heap.size := by omega); (try have y2 : w.heap.size + 2 < w1.heap.size := by omega)))
    go_ret
    refine ⟨rfl, ?_⟩
    (repeat' (first | assumption | exact Below.refl _ _ | exact Below.size (by assumption) | (refine Below.setCell ?_ ?_ _) | (refine Below.alloc ?_ ?_ _) | (refine Below.drew ?_) | (refine below_drewN ?_ _) | (refine Below.trans ?_ (Below.mono ‹Below _ _ _› ?_)) | omega | (simp; done) | (simp; omega) | (simp at *; omega)))
set_option maxRecDepth 100000 in
theorem p_llink (nm fr tn : ByteArray) (kd ln up dn : Int) (sc : ByteArray) (wd ht : Int) (A : Option Addr) (n c : Nat) (f : Bool) (hf : f = decide (20 < n ∨ 60 < nm.size ∨ 60 < fr.size ∨ 60 < tn.size ∨ 60 < sc.size)) (w : World) : Calls Tryz.prog 23 #[.agg #[.string nm, .string fr, .string tn, .int .i64 kd, .int .i64 ln, .int .i64 up, .int .i64 dn, .string sc, .int .i64 wd, .int .i64 ht, .slice A n c]] w fun e w' => e = .returned (.bool f) ∧ Below w.heap.size w w' := by
  subst hf
  by_cases h0 : 20 < n
  case pos =>
    have t0_0 : decide ((20 : Int) < (n : Int)) = true := decide_eq_true (by omega)
    have t0_1 : decide (20 < n) = true := decide_eq_true (by omega)
    rw [decide_eq_true (Or.inl h0)]
    clear h0
    go_enter Tryz.func23, Tryz.ntmps23
    go_wp2_with fail
    go_ret
    exact ⟨rfl, by (repeat' (first | assumption | exact Below.refl _ _ | exact Below.size (by assumption) | (refine Below.setCell ?_ ?_ _) | (refine Below.alloc ?_ ?_ _) | (refine Below.drew ?_) | (refine below_drewN ?_ _) | (refine Below.trans ?_ (Below.mono ‹Below _ _ _› ?_)) | omega | (simp; done) | (simp; omega) | (simp at *; omega)))⟩
  have t0_0 : decide ((20 : Int) < (n : Int)) = false := decide_eq_false (by omega)
  have t0_1 : decide (20 < n) = false := decide_eq_false (by omega)
  by_cases h1 : 60 < nm.size
  case pos =>
    have t1_0 : decide ((60 : Int) < (nm.size : Int)) = true := decide_eq_true (by omega)
    have t1_1 : decide (60 < nm.size) = true := decide_eq_true (by omega)
    rw [decide_eq_true (Or.inr (Or.inl h1))]
    clear h0 h1
    go_enter Tryz.func23, Tryz.ntmps23
    go_wp2_with fail
    go_ret
    exact ⟨rfl, by (repeat' (first | assumption | exact Below.refl _ _ | exact Below.size (by assumption) | (refine Below.setCell ?_ ?_ _) | (refine Below.alloc ?_ ?_ _) | (refine Below.drew ?_) | (refine below_drewN ?_ _) | (refine Below.trans ?_ (Below.mono ‹Below _ _ _› ?_)) | omega | (simp; done) | (simp; omega) | (simp at *; omega)))⟩
  have t1_0 : decide ((60 : Int) < (nm.size : Int)) = false := decide_eq_false (by omega)
  have t1_1 : decide (60 < nm.size) = false := decide_eq_false (by omega)
  by_cases h2 : 60 < fr.size
  case pos =>
    have t2_0 : decide ((60 : Int) < (fr.size : Int)) = true := decide_eq_true (by omega)
    have t2_1 : decide (60 < fr.size) = true := decide_eq_true (by omega)
    rw [decide_eq_true (Or.inr (Or.inr (Or.inl h2)))]
    clear h0 h1 h2
    go_enter Tryz.func23, Tryz.ntmps23
    go_wp2_with fail
    go_ret
    exact ⟨rfl, by (repeat' (first | assumption | exact Below.refl _ _ | exact Below.size (by assumption) | (refine Below.setCell ?_ ?_ _) | (refine Below.alloc ?_ ?_ _) | (refine Below.drew ?_) | (refine below_drewN ?_ _) | (refine Below.trans ?_ (Below.mono ‹Below _ _ _› ?_)) | omega | (simp; done) | (simp; omega) | (simp at *; omega)))⟩
  have t2_0 : decide ((60 : Int) < (fr.size : Int)) = false := decide_eq_false (by omega)
  have t2_1 : decide (60 < fr.size) = false := decide_eq_false (by omega)
  by_cases h3 : 60 < tn.size
  case pos =>
    have t3_0 : decide ((60 : Int) < (tn.size : Int)) = true := decide_eq_true (by omega)
    have t3_1 : decide (60 < tn.size) = true := decide_eq_true (by omega)
    rw [decide_eq_true (Or.inr (Or.inr (Or.inr (Or.inl h3))))]
    clear h0 h1 h2 h3
    go_enter Tryz.func23, Tryz.ntmps23
    go_wp2_with fail
    go_ret
    exact ⟨rfl, by (repeat' (first | assumption | exact Below.refl _ _ | exact Below.size (by assumption) | (refine Below.setCell ?_ ?_ _) | (refine Below.alloc ?_ ?_ _) | (refine Below.drew ?_) | (refine below_drewN ?_ _) | (refine Below.trans ?_ (Below.mono ‹Below _ _ _› ?_)) | omega | (simp; done) | (simp; omega) | (simp at *; omega)))⟩
  have t3_0 : decide ((60 : Int) < (tn.size : Int)) = false := decide_eq_false (by omega)
  have t3_1 : decide (60 < tn.size) = false := decide_eq_false (by omega)
  by_cases h4 : 60 < sc.size
  case pos =>
    have t4_0 : decide ((60 : Int) < (sc.size : Int)) = true := decide_eq_true (by omega)
    have t4_1 : decide (60 < sc.size) = true := decide_eq_true (by omega)
    rw [decide_eq_true (Or.inr (Or.inr (Or.inr (Or.inr (h4)))))]
    clear h0 h1 h2 h3 h4
    go_enter Tryz.func23, Tryz.ntmps23
    go_wp2_with fail
    go_ret
    exact ⟨rfl, by (repeat' (first | assumption | exact Below.refl _ _ | exact Below.size (by assumption) | (refine Below.setCell ?_ ?_ _) | (refine Below.alloc ?_ ?_ _) | (refine Below.drew ?_) | (refine below_drewN ?_ _) | (refine Below.trans ?_ (Below.mono ‹Below _ _ _› ?_)) | omega | (simp; done) | (simp; omega) | (simp at *; omega)))⟩
  have t4_0 : decide ((60 : Int) < (sc.size : Int)) = false := decide_eq_false (by omega)
  have t4_1 : decide (60 < sc.size) = false := decide_eq_false (by omega)
  rw [decide_eq_false (show ¬ (20 < n ∨ 60 < nm.size ∨ 60 < fr.size ∨ 60 < tn.size ∨ 60 < sc.size) by omega)]
  clear h0 h1 h2 h3 h4
  go_enter Tryz.func23, Tryz.ntmps23
  go_wp2_with fail
  go_ret
  exact ⟨rfl, by (repeat' (first | assumption | exact Below.refl _ _ | exact Below.size (by assumption) | (refine Below.setCell ?_ ?_ _) | (refine Below.alloc ?_ ?_ _) | (refine Below.drew ?_) | (refine below_drewN ?_ _) | (refine Below.trans ?_ (Below.mono ‹Below _ _ _› ?_)) | omega | (simp; done) | (simp; omega) | (simp at *; omega)))⟩
set_option maxRecDepth 100000 in
set_option maxHeartbeats 2000000 in
theorem find_llink (A : Option Addr) (n c k : Nat) (K : Lks) (w : World) (h2 : n ≤ 2000) (ht : LkIn w A n K) (hk : FirstAt (fun j => decide (20 < K.CN j ∨ 60 < (K.Nm j).size ∨ 60 < (K.Fr j).size ∨ 60 < (K.To j).size ∨ 60 < (K.Sc j).size)) n k) (v : Int) (hv : v = if k < n then (k : Int) else -1) :
    Calls Tryz.prog 53 #[.slice A n c, .func (.func 23) #[] #[]] w fun e w' => e = .returned (.int .i64 v) ∧ Below w.heap.size w w' := by
  have HT := Lib.hid ht
  have HK := Lib.hid hk
  have H2 := Lib.hid h2
  have HV := Lib.hid hv
  clear ht hk h2 hv
  go_enter Tryz.func53, Tryz.ntmps53
  go_wp2_with fail
  go_loopw [8] (fun u wr => ∃ i : Nat, Hid (i ≤ n ∧ i ≤ k) ∧ u = .int .i64 i ∧ Hid (Below w.heap.size w wr)) (fun u _ => n - (RowKit.intOf u).toNat)
  case atStart => exact ⟨0, ⟨Nat.zero_le _, Nat.zero_le _⟩, rfl, Below.refl _ _⟩
  case round =>
    obtain ⟨i, Hi, rfl, HW⟩ := hrel
    by_cases hlt : i < n
    · have T0 : decide ((i : Int) < (n : Int)) = true := by simp <;> omega
      have T0' : decide (i < n) = true := decide_eq_true hlt
      obtain ⟨i', hi'⟩ : ∃ z, z = i + 1 := ⟨_, rfl⟩
      have x0 : IntKind.i64.wrap ((i : Int) + 1) = (i' : Int) := by have := H2.out; rw [IntKind.wrap_i64]; omega
      obtain ⟨b, off, rfl, hb, hC, _⟩ := (HT.out.below (Nat.le_refl _) HW.out).at hlt
      have c0 := hC 0 _ rfl
      have c1 := hC 1 _ rfl
      have c2 := hC 2 _ rfl
      have c3 := hC 3 _ rfl
      have c4 := hC 4 _ rfl
      have c5 := hC 5 _ rfl
      have c6 := hC 6 _ rfl
      have c7 := hC 7 _ rfl
      have c8 := hC 8 _ rfl
      have c9 := hC 9 _ rfl
      have c10 := hC 10 _ rfl
      simp only [Nat.add_zero] at c0
      clear hC
      have k0 : (0 : Int) ≤ (i : Int) := by omega
      have k1 : (i : Int) < (n : Int) := by omega
      have HMS : Hid (n - (RowKit.intOf (Value.int .i64 (i' : Int))).toNat < n - (RowKit.intOf (Value.int .i64 (i : Int))).toNat) := by show _ < _; simp [RowKit.intOf]; omega
      rcases first_at HK.out hlt Hi.out.2 with ⟨hp, hik⟩ | ⟨hp, hik⟩
      · have KK := Lib.hid fun w => (p_llink (K.Nm i) (K.Fr i) (K.To i) (K.Kd i) (K.Ln i) (K.Up i) (K.Dn i) (K.Sc i) (K.Wd i) (K.Ht i) (K.CA i) (K.CN i) (K.CC i) true hp.symm w)
        have HR : Hid ((i : Int) = v) := by show (i : Int) = v; rw [HV.out, hik, if_pos (by omega)]
        clear hi' hp hik
        go_wp2_with (first | (go_at_call 23; (with_reducible refine (KK.out _).mono ?_); rintro e w1 ⟨rfl, hb1⟩; obtain ⟨hc1, hf1⟩ := bcell hb1; have hz1 := hb1.size; (try simp at hz1); (try simp only [heap_drew, World.heap_drewN] at hz1); (try simp only [heap_drew, World.heap_drewN] at hc1); (try simp only [heap_drew, World.heap_drewN] at hf1); (try have hs1 := Nat.lt_of_succ_le hz1); (try have hs2 := Nat.lt_of_succ_lt hs1); (try have y0 : w.heap.size < w1.heap.size := by omega); (try have y1 : w.heap.size + 1 < w1.heap.size := by omega); (try have y2 : w.heap.size + 2 < w1.heap.size := by omega)))
        go_ret
        refine ⟨ret_int HR.out, ?_⟩
        have := HW.out
        (repeat' (first | assumption | exact Below.refl _ _ | exact Below.size (by assumption) | (refine Below.setCell ?_ ?_ _) | (refine Below.alloc ?_ ?_ _) | (refine Below.drew ?_) | (refine below_drewN ?_ _) | (refine Below.trans ?_ (Below.mono ‹Below _ _ _› ?_)) | omega | (simp; done) | (simp; omega) | (simp at *; omega)))
      · have KK := Lib.hid fun w => (p_llink (K.Nm i) (K.Fr i) (K.To i) (K.Kd i) (K.Ln i) (K.Up i) (K.Dn i) (K.Sc i) (K.Wd i) (K.Ht i) (K.CA i) (K.CN i) (K.CC i) false hp.symm w)
        have HI' : Hid (i' ≤ n ∧ i' ≤ k) := by show _ ∧ _; omega
        clear hi' hp hik
        go_wp2_with (first | (go_at_call 23; (with_reducible refine (KK.out _).mono ?_); rintro e w1 ⟨rfl, hb1⟩; obtain ⟨hc1, hf1⟩ := bcell hb1; have hz1 := hb1.size; (try simp at hz1); (try simp only [heap_drew, World.heap_drewN] at hz1); (try simp only [heap_drew, World.heap_drewN] at hc1); (try simp only [heap_drew, World.heap_drewN] at hf1); (try have hs1 := Nat.lt_of_succ_le hz1); (try have hs2 := Nat.lt_of_succ_lt hs1); (try have y0 : w.heap.size < w1.heap.size := by omega); (try have y1 : w.heap.size + 1 < w1.heap.size := by omega); (try have y2 : w.heap.size + 2 < w1.heap.size := by omega)))
        go_roundw
        case rel => exact ⟨i', HI', rfl, by have := HW.out; (repeat' (first | assumption | exact Below.refl _ _ | exact Below.size (by assumption) | (refine Below.setCell ?_ ?_ _) | (refine Below.alloc ?_ ?_ _) | (refine Below.drew ?_) | (refine below_drewN ?_ _) | (refine Below.trans ?_ (Below.mono ‹Below _ _ _› ?_)) | omega | (simp; done) | (simp; omega) | (simp at *; omega)))⟩
        case measure => exact HMS.out
    · have e : i = n := by have := Hi.out; omega
      have HR : Hid ((-1 : Int) = v) := by show (-1 : Int) = v; rw [HV.out, if_neg (by have := Hi.out; omega)]
      have T0 : decide ((i : Int) < (n : Int)) = false := by simp <;> omega
      have T0' : decide (i < n) = false := decide_eq_false hlt
      clear e hlt
      go_wp2_with fail
      go_ret
      exact ⟨ret_int HR.out, HW.out⟩
theorem has_llink (A : Option Addr) (n c : Nat) (K : Lks) (w : World) (h2 : n ≤ 2000) (ht : LkIn w A n K) (f : Bool) (hf : f = true ↔ ∃ j, j < n ∧ (fun j => decide (20 < K.CN j ∨ 60 < (K.Nm j).size ∨ 60 < (K.Fr j).size ∨ 60 < (K.To j).size ∨ 60 < (K.Sc j).size)) j = true) :
    Calls Tryz.prog 22 #[.slice A n c, .func (.func 23) #[] #[]] w fun e w' => e = .returned (.bool f) ∧ Below w.heap.size w w' := by
  obtain ⟨k, hk⟩ := first_ex (fun j => decide (20 < K.CN j ∨ 60 < (K.Nm j).size ∨ 60 < (K.Fr j).size ∨ 60 < (K.To j).size ∨ 60 < (K.Sc j).size)) n
  have hany := first_any hk
  have S := Lib.hid (find_llink A n c k K w h2 ht hk _ rfl)
  by_cases hkn : k < n
  · have hft : f = true := hf.2 (hany.1 hkn)
    rw [if_pos hkn] at S
    have t : decide ((0 : Int) ≤ (k : Int)) = true := decide_eq_true (by omega)
    subst hft
    clear hk hany hkn hf ht h2
    go_enter Tryz.func22, Tryz.ntmps22
    go_wp2_with (first | (go_at_call 53; (with_reducible refine (S.out).mono ?_); rintro e w1 ⟨rfl, hb1⟩; obtain ⟨hc1, hf1⟩ := bcell hb1; have hz1 := hb1.size; (try simp at hz1); (try simp only [heap_drew, World.heap_drewN] at hz1); (try simp only [heap_drew, World.heap_drewN] at hc1); (try simp only [heap_drew, World.heap_drewN] at hf1); (try have hs1 := Nat.lt_of_succ_le hz1); (try have hs2 := Nat.lt_of_succ_lt hs1); (try have y0 : w.heap.size < w1.heap.size := by omega); (try have y1 : w.heap.size + 1 < w1.heap.size := by omega); (try have y2 : w.heap.size + 2 < w1.heap.size := by omega)))
    go_ret
    refine ⟨rfl, ?_⟩
    (repeat' (first | assumption | exact Below.refl _ _ | exact Below.size (by assumption) | (refine Below.setCell ?_ ?_ _) | (refine Below.alloc ?_ ?_ _) | (refine Below.drew ?_) | (refine below_drewN ?_ _) | (refine Below.trans ?_ (Below.mono ‹Below _ _ _› ?_)) | omega | (simp; done) | (simp; omega) | (simp at *; omega)))
  · have hft : f = false := by
      cases f with
      | false => rfl
      | true => exact absurd (hany.2 (hf.1 rfl)) hkn
    rw [if_neg hkn] at S
    subst hft
    clear hk hany hkn hf ht h2
    go_enter Tryz.func22, Tryz.ntmps22
    go_wp2_with (first | (go_at_call 53; (with_reducible refine (S.out).mono ?_); rintro e w1 ⟨rfl, hb1⟩; obtain ⟨hc1, hf1⟩ := bcell hb1; have hz1 := hb1.size; (try simp at hz1); (try simp only [heap_drew, World.heap_drewN] at hz1); (try simp only [heap_drew, World.heap_drewN] at hc1); (try simp only [heap_drew, World.heap_drewN] at hf1); (try have hs1 := Nat.lt_of_succ_le hz1); (try have hs2 := Nat.lt_of_succ_lt hs1); (try have y0 : w.heap.size < w1.heap.size := by omega); (try have y1 : w.heap.size + 1 < w1.heap.size := by omega); (try have y2 : w.heap.size + 2 < w1.heap.size := by omega)))
    go_ret
    refine ⟨rfl, ?_⟩
    (repeat' (first | assumption | exact Below.refl _ _ | exact Below.size (by assumption) | (refine Below.setCell ?_ ?_ _) | (refine Below.alloc ?_ ?_ _) | (refine Below.drew ?_) | (refine below_drewN ?_ _) | (refine Below.trans ?_ (Below.mono ‹Below _ _ _› ?_)) | omega | (simp; done) | (simp; omega) | (simp at *; omega)))
end Go.Proofs.YtdgfljkhnifemaaGreatDoor

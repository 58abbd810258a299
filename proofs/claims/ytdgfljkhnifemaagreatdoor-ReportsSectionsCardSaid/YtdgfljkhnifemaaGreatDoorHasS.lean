/- Whether there are too many sections, or long names; whether spans are valid (package and law 55). -/
import Derived.Test.YtdgfljkhnifemaaGreatDoorSct
import Derived.Test.YtdgfljkhnifemaaGreatDoorNetE
namespace Go.Proofs.YtdgfljkhnifemaaGreatDoor
open Go.RowKit
set_option linter.unusedVariables false
set_option linter.unusedSimpArgs false

set_option maxRecDepth 100000 in
theorem p_many (nm : ByteArray) (h p : Int) (A : Option Addr) (an ac : Nat) (B : Option Addr) (bn bc : Nat) (f : Bool) (hf : f = decide (20 < an ∨ 20 < bn ∨ 60 < nm.size)) (w : World) : Calls Tryz.prog 25 #[.agg #[.string nm, .int .i64 h, .int .i64 p, .slice A an ac, .slice B bn bc]] w fun e w' => e = .returned (.bool f) ∧ Below w.heap.size w w' := by
  subst hf
  by_cases h0 : 20 < an
  case pos =>
    have t0_0 : decide ((20 : Int) < (an : Int)) = true := decide_eq_true (by omega)
    have t0_1 : decide (20 < an) = true := decide_eq_true (by omega)
    rw [decide_eq_true (Or.inl h0)]
    clear h0
    go_enter Tryz.func25, Tryz.ntmps25
    go_wp2_with fail
    go_ret
    exact ⟨rfl, by (repeat' (first | assumption | exact Below.refl _ _ | exact Below.size (by assumption) | (refine Below.setCell ?_ ?_ _) | (refine Below.alloc ?_ ?_ _) | (refine Below.drew ?_) | (refine below_drewN ?_ _) | (refine Below.trans ?_ (Below.mono ‹Below _ _ _› ?_)) | omega | (simp; done) | (simp; omega) | (simp at *; omega)))⟩
  have t0_0 : decide ((20 : Int) < (an : Int)) = false := decide_eq_false (by omega)
  have t0_1 : decide (20 < an) = false := decide_eq_false (by omega)
  by_cases h1 : 20 < bn
  case pos =>
    have t1_0 : decide ((20 : Int) < (bn : Int)) = true := decide_eq_true (by omega)
    have t1_1 : decide (20 < bn) = true := decide_eq_true (by omega)
    rw [decide_eq_true (Or.inr (Or.inl h1))]
    clear h0 h1
    go_enter Tryz.func25, Tryz.ntmps25
    go_wp2_with fail
    go_ret
    exact ⟨rfl, by (repeat' (first | assumption | exact Below.refl _ _ | exact Below.size (by assumption) | (refine Below.setCell ?_ ?_ _) | (refine Below.alloc ?_ ?_ _) | (refine Below.drew ?_) | (refine below_drewN ?_ _) | (refine Below.trans ?_ (Below.mono ‹Below _ _ _› ?_)) | omega | (simp; done) | (simp; omega) | (simp at *; omega)))⟩
  have t1_0 : decide ((20 : Int) < (bn : Int)) = false := decide_eq_false (by omega)
  have t1_1 : decide (20 < bn) = false := decide_eq_false (by omega)
  by_cases h2 : 60 < nm.size
  case pos =>
    have t2_0 : decide ((60 : Int) < (nm.size : Int)) = true := decide_eq_true (by omega)
    have t2_1 : decide (60 < nm.size) = true := decide_eq_true (by omega)
    rw [decide_eq_true (Or.inr (Or.inr (h2)))]
    clear h0 h1 h2
    go_enter Tryz.func25, Tryz.ntmps25
    go_wp2_with fail
    go_ret
    exact ⟨rfl, by (repeat' (first | assumption | exact Below.refl _ _ | exact Below.size (by assumption) | (refine Below.setCell ?_ ?_ _) | (refine Below.alloc ?_ ?_ _) | (refine Below.drew ?_) | (refine below_drewN ?_ _) | (refine Below.trans ?_ (Below.mono ‹Below _ _ _› ?_)) | omega | (simp; done) | (simp; omega) | (simp at *; omega)))⟩
  have t2_0 : decide ((60 : Int) < (nm.size : Int)) = false := decide_eq_false (by omega)
  have t2_1 : decide (60 < nm.size) = false := decide_eq_false (by omega)
  rw [decide_eq_false (show ¬ (20 < an ∨ 20 < bn ∨ 60 < nm.size) by omega)]
  clear h0 h1 h2
  go_enter Tryz.func25, Tryz.ntmps25
  go_wp2_with fail
  go_ret
  exact ⟨rfl, by (repeat' (first | assumption | exact Below.refl _ _ | exact Below.size (by assumption) | (refine Below.setCell ?_ ?_ _) | (refine Below.alloc ?_ ?_ _) | (refine Below.drew ?_) | (refine below_drewN ?_ _) | (refine Below.trans ?_ (Below.mono ‹Below _ _ _› ?_)) | omega | (simp; done) | (simp; omega) | (simp at *; omega)))⟩
set_option maxRecDepth 100000 in
set_option maxHeartbeats 2000000 in
theorem find_many (A : Option Addr) (n c k : Nat) (C : Scs) (w : World) (h2 : n ≤ 2000) (ht : ScIn w A n C) (hk : FirstAt (fun j => decide (20 < C.AN j ∨ 20 < C.BN j ∨ 60 < (C.Nm j).size)) n k) (v : Int) (hv : v = if k < n then (k : Int) else -1) :
    Calls Tryz.prog 33 #[.slice A n c, .func (.func 25) #[] #[]] w fun e w' => e = .returned (.int .i64 v) ∧ Below w.heap.size w w' := by
  have HT := Lib.hid ht
  have HK := Lib.hid hk
  have H2 := Lib.hid h2
  have HV := Lib.hid hv
  clear ht hk h2 hv
  go_enter Tryz.func33, Tryz.ntmps33
  go_wp2_with fail
  go_loopw [8] (fun u wr => ∃ i : Nat, Hid (i ≤ n ∧ i ≤ k) ∧ u = .int .i64 i ∧ Hid (Below w.heap.size w wr)) (fun u _ => n - (RowKit.intOf u).toNat)
  case atStart => exact ⟨0, ⟨Nat.zero_le _, Nat.zero_le _⟩, rfl, Below.refl _ _⟩
  case round =>
    obtain ⟨i, Hi, rfl, HW⟩ := hrel
    by_cases hlt : i < n
    · have T0 : decide ((i : Int) < (n : Int)) = true := by simp <;> omega
      have T0' : decide (i < n) = true := decide_eq_true hlt
      obtain ⟨i', hi'⟩ : ∃ z, z = i + 1 := ⟨_, rfl⟩
      have x0 : IntKind.i64.wrap ((i : Int) + 1) = (i' : Int) := by have := H2.out; rw [IntKind.wrap_i64]; omega
      obtain ⟨b, off, rfl, hb, hC, _⟩ := (HT.out.below (Nat.le_refl _) HW.out).at hlt
      have c0 := hC 0 _ rfl
      have c1 := hC 1 _ rfl
      have c2 := hC 2 _ rfl
      have c3 := hC 3 _ rfl
      have c4 := hC 4 _ rfl
      simp only [Nat.add_zero] at c0
      clear hC
      have k0 : (0 : Int) ≤ (i : Int) := by omega
      have k1 : (i : Int) < (n : Int) := by omega
      have HMS : Hid (n - (RowKit.intOf (Value.int .i64 (i' : Int))).toNat < n - (RowKit.intOf (Value.int .i64 (i : Int))).toNat) := by show _ < _; simp [RowKit.intOf]; omega
      rcases first_at HK.out hlt Hi.out.2 with ⟨hp, hik⟩ | ⟨hp, hik⟩
      · have KK := Lib.hid fun w => (p_many (C.Nm i) (C.Ht i) (C.Pr i) (C.AA i) (C.AN i) (C.AC i) (C.BA i) (C.BN i) (C.BC i) true hp.symm w)
        have HR : Hid ((i : Int) = v) := by show (i : Int) = v; rw [HV.out, hik, if_pos (by omega)]
        clear hi' hp hik
        go_wp2_with (first | (go_at_call 25; (with_reducible refine (KK.out _).mono ?_); rintro e w1 ⟨rfl, hb1⟩; obtain ⟨hc1, hf1⟩ := bcell hb1; have hz1 := hb1.size; (try simp at hz1); (try simp only [heap_drew, World.heap_drewN] at hz1); (try simp only [heap_drew, World.heap_drewN] at hc1); (try simp only [heap_drew, World.heap_drewN] at hf1); (try have hs1 := Nat.lt_of_succ_le hz1); (try have hs2 := Nat.lt_of_succ_lt hs1); (try have y0 : w.heap.size < w1.heap.size := by omega); (try have y1 : w.heap.size + 1 < w1.heap.size := by omega); (try have y2 : w.heap.size + 2 < w1.heap.size := by omega)))
        go_ret
        refine ⟨ret_int HR.out, ?_⟩
        have := HW.out
        (repeat' (first | assumption | exact Below.refl _ _ | exact Below.size (by assumption) | (refine Below.setCell ?_ ?_ _) | (refine Below.alloc ?_ ?_ _) | (refine Below.drew ?_) | (refine below_drewN ?_ _) | (refine Below.trans ?_ (Below.mono ‹Below _ _ _› ?_)) | omega | (simp; done) | (simp; omega) | (simp at *; omega)))
      · have KK := Lib.hid fun w => (p_many (C.Nm i) (C.Ht i) (C.Pr i) (C.AA i) (C.AN i) (C.AC i) (C.BA i) (C.BN i) (C.BC i) false hp.symm w)
        have HI' : Hid (i' ≤ n ∧ i' ≤ k) := by show _ ∧ _; omega
        clear hi' hp hik
        go_wp2_with (first | (go_at_call 25; (with_reducible refine (KK.out _).mono ?_); rintro e w1 ⟨rfl, hb1⟩; obtain ⟨hc1, hf1⟩ := bcell hb1; have hz1 := hb1.size; (try simp at hz1); (try simp only [heap_drew, World.heap_drewN] at hz1); (try simp only [heap_drew, World.heap_drewN] at hc1); (try simp only [heap_drew, World.heap_drewN] at hf1); (try have hs1 := Nat.lt_of_succ_le hz1); (try have hs2 := Nat.lt_of_succ_lt hs1); (try have y0 : w.heap.size < w1.heap.size := by omega); (try have y1 : w.heap.size + 1 < w1.heap.size := by omega); (try have y2 : w.heap.size + 2 < w1.heap.size := by omega)))
        go_roundw
        case rel => exact ⟨i', HI', rfl, by have := HW.out; (repeat' (first | assumption | exact Below.refl _ _ | exact Below.size (by assumption) | (refine Below.setCell ?_ ?_ _) | (refine Below.alloc ?_ ?_ _) | (refine Below.drew ?_) | (refine below_drewN ?_ _) | (refine Below.trans ?_ (Below.mono ‹Below _ _ _› ?_)) | omega | (simp; done) | (simp; omega) | (simp at *; omega)))⟩
        case measure => exact HMS.out
    · have e : i = n := by have := Hi.out; omega
      have HR : Hid ((-1 : Int) = v) := by show (-1 : Int) = v; rw [HV.out, if_neg (by have := Hi.out; omega)]
      have T0 : decide ((i : Int) < (n : Int)) = false := by simp <;> omega
      have T0' : decide (i < n) = false := decide_eq_false hlt
      clear e hlt
      go_wp2_with fail
      go_ret
      exact ⟨ret_int HR.out, HW.out⟩
theorem has_many (A : Option Addr) (n c : Nat) (C : Scs) (w : World) (h2 : n ≤ 2000) (ht : ScIn w A n C) (f : Bool) (hf : f = true ↔ ∃ j, j < n ∧ (fun j => decide (20 < C.AN j ∨ 20 < C.BN j ∨ 60 < (C.Nm j).size)) j = true) :
    Calls Tryz.prog 24 #[.slice A n c, .func (.func 25) #[] #[]] w fun e w' => e = .returned (.bool f) ∧ Below w.heap.size w w' := by
  obtain ⟨k, hk⟩ := first_ex (fun j => decide (20 < C.AN j ∨ 20 < C.BN j ∨ 60 < (C.Nm j).size)) n
  have hany := first_any hk
  have S := Lib.hid (find_many A n c k C w h2 ht hk _ rfl)
  by_cases hkn : k < n
  · have hft : f = true := hf.2 (hany.1 hkn)
    rw [if_pos hkn] at S
    have t : decide ((0 : Int) ≤ (k : Int)) = true := decide_eq_true (by omega)
    subst hft
    clear hk hany hkn hf ht h2
    go_enter Tryz.func24, Tryz.ntmps24
    go_wp2_with (first | (go_at_call 33; (with_reducible refine (S.out).mono ?_); rintro e w1 ⟨rfl, hb1⟩; obtain ⟨hc1, hf1⟩ := bcell hb1; have hz1 := hb1.size; (try simp at hz1); (try simp only [heap_drew, World.heap_drewN] at hz1); (try simp only [heap_drew, World.heap_drewN] at hc1); (try simp only [heap_drew, World.heap_drewN] at hf1); (try have hs1 := Nat.lt_of_succ_le hz1); (try have hs2 := Nat.lt_of_succ_lt hs1); (try have y0 : w.heap.size < w1.heap.size := by omega); (try have y1 : w.heap.size + 1 < w1.heap.size := by omega); (try have y2 : w.heap.size + 2 < w1.heap.size := by omega)))
    go_ret
    refine ⟨rfl, ?_⟩
    (repeat' (first | assumption | exact Below.refl _ _ | exact Below.size (by assumption) | (refine Below.setCell ?_ ?_ _) | (refine Below.alloc ?_ ?_ _) | (refine Below.drew ?_) | (refine below_drewN ?_ _) | (refine Below.trans ?_ (Below.mono ‹Below _ _ _› ?_)) | omega | (simp; done) | (simp; omega) | (simp at *; omega)))
  · have hft : f = false := by
      cases f with
      | false => rfl
      | true => exact absurd (hany.2 (hf.1 rfl)) hkn
    rw [if_neg hkn] at S
    subst hft
    clear hk hany hkn hf ht h2
    go_enter Tryz.func24, Tryz.ntmps24
    go_wp2_with (first | (go_at_call 33; (with_reducible refine (S.out).mono ?_); rintro e w1 ⟨rfl, hb1⟩; obtain ⟨hc1, hf1⟩ := bcell hb1; have hz1 := hb1.size; (try simp at hz1); (try simp only [heap_drew, World.heap_drewN] at hz1); (try simp only [heap_drew, World.heap_drewN] at hc1); (try simp only [heap_drew, World.heap_drewN] at hf1); (try have hs1 := Nat.lt_of_succ_le hz1); (try have hs2 := Nat.lt_of_succ_lt hs1); (try have y0 : w.heap.size < w1.heap.size := by omega); (try have y1 : w.heap.size + 1 < w1.heap.size := by omega); (try have y2 : w.heap.size + 2 < w1.heap.size := by omega)))
    go_ret
    refine ⟨rfl, ?_⟩
    (repeat' (first | assumption | exact Below.refl _ _ | exact Below.size (by assumption) | (refine Below.setCell ?_ ?_ _) | (refine Below.alloc ?_ ?_ _) | (refine Below.drew ?_) | (refine below_drewN ?_ _) | (refine Below.trans ?_ (Below.mono ‹Below _ _ _› ?_)) | omega | (simp; done) | (simp; omega) | (simp at *; omega)))
set_option maxRecDepth 100000 in
theorem p_long (s : ByteArray) (f : Bool) (hf : f = decide (60 < s.size)) (w : World) : Calls Tryz.prog 27 #[.string s] w fun e w' => e = .returned (.bool f) ∧ Below w.heap.size w w' := by
  subst hf
  by_cases h0 : 60 < s.size
  case pos =>
    have t0_0 : decide ((60 : Int) < (s.size : Int)) = true := decide_eq_true (by omega)
    have t0_1 : decide (60 < s.size) = true := decide_eq_true (by omega)
    rw [decide_eq_true (h0)]
    clear h0
    go_enter Tryz.func27, Tryz.ntmps27
    go_wp2_with fail
    go_ret
    exact ⟨rfl, by (repeat' (first | assumption | exact Below.refl _ _ | exact Below.size (by assumption) | (refine Below.setCell ?_ ?_ _) | (refine Below.alloc ?_ ?_ _) | (refine Below.drew ?_) | (refine below_drewN ?_ _) | (refine Below.trans ?_ (Below.mono ‹Below _ _ _› ?_)) | omega | (simp; done) | (simp; omega) | (simp at *; omega)))⟩
  have t0_0 : decide ((60 : Int) < (s.size : Int)) = false := decide_eq_false (by omega)
  have t0_1 : decide (60 < s.size) = false := decide_eq_false (by omega)
  rw [decide_eq_false (show ¬ (60 < s.size) by omega)]
  clear h0
  go_enter Tryz.func27, Tryz.ntmps27
  go_wp2_with fail
  go_ret
  exact ⟨rfl, by (repeat' (first | assumption | exact Below.refl _ _ | exact Below.size (by assumption) | (refine Below.setCell ?_ ?_ _) | (refine Below.alloc ?_ ?_ _) | (refine Below.drew ?_) | (refine below_drewN ?_ _) | (refine Below.trans ?_ (Below.mono ‹Below _ _ _› ?_)) | omega | (simp; done) | (simp; omega) | (simp at *; omega)))⟩
set_option maxRecDepth 100000 in
set_option maxHeartbeats 2000000 in
theorem find_long (A : Option Addr) (n c k : Nat) (X : Nat → ByteArray) (w : World) (h2 : n ≤ 2000) (ht : StrIn w A n X) (hk : FirstAt (fun j => decide (60 < (X j).size)) n k) (v : Int) (hv : v = if k < n then (k : Int) else -1) :
    Calls Tryz.prog 54 #[.slice A n c, .func (.func 27) #[] #[]] w fun e w' => e = .returned (.int .i64 v) ∧ Below w.heap.size w w' := by
  have HT := Lib.hid ht
  have HK := Lib.hid hk
  have H2 := Lib.hid h2
  have HV := Lib.hid hv
  clear ht hk h2 hv
  go_enter Tryz.func54, Tryz.ntmps54
  go_wp2_with fail
  go_loopw [8] (fun u wr => ∃ i : Nat, Hid (i ≤ n ∧ i ≤ k) ∧ u = .int .i64 i ∧ Hid (Below w.heap.size w wr)) (fun u _ => n - (RowKit.intOf u).toNat)
  case atStart => exact ⟨0, ⟨Nat.zero_le _, Nat.zero_le _⟩, rfl, Below.refl _ _⟩
  case round =>
    obtain ⟨i, Hi, rfl, HW⟩ := hrel
    by_cases hlt : i < n
    · have T0 : decide ((i : Int) < (n : Int)) = true := by simp <;> omega
      have T0' : decide (i < n) = true := decide_eq_true hlt
      obtain ⟨i', hi'⟩ : ∃ z, z = i + 1 := ⟨_, rfl⟩
      have x0 : IntKind.i64.wrap ((i : Int) + 1) = (i' : Int) := by have := H2.out; rw [IntKind.wrap_i64]; omega
      obtain ⟨b, off, rfl, hb, c0⟩ := (HT.out.below (Nat.le_refl _) HW.out).at hlt

      have k0 : (0 : Int) ≤ (i : Int) := by omega
      have k1 : (i : Int) < (n : Int) := by omega
      have HMS : Hid (n - (RowKit.intOf (Value.int .i64 (i' : Int))).toNat < n - (RowKit.intOf (Value.int .i64 (i : Int))).toNat) := by show _ < _; simp [RowKit.intOf]; omega
      rcases first_at HK.out hlt Hi.out.2 with ⟨hp, hik⟩ | ⟨hp, hik⟩
      · have KK := Lib.hid fun w => (p_long (X i) true hp.symm w)
        have HR : Hid ((i : Int) = v) := by show (i : Int) = v; rw [HV.out, hik, if_pos (by omega)]
        clear hi' hp hik
        go_wp2_with (first | (go_at_call 27; (with_reducible refine (KK.out _).mono ?_); rintro e w1 ⟨rfl, hb1⟩; obtain ⟨hc1, hf1⟩ := bcell hb1; have hz1 := hb1.size; (try simp at hz1); (try simp only [heap_drew, World.heap_drewN] at hz1); (try simp only [heap_drew, World.heap_drewN] at hc1); (try simp only [heap_drew, World.heap_drewN] at hf1); (try have hs1 := Nat.lt_of_succ_le hz1); (try have hs2 := Nat.lt_of_succ_lt hs1); (try have y0 : w.heap.size < w1.heap.size := by omega); (try have y1 : w.heap.size + 1 < w1.heap.size := by omega); (try have y2 : w.heap.size + 2 < w1.heap.size := by omega)))
        go_ret
        refine ⟨ret_int HR.out, ?_⟩
        have := HW.out
        (repeat' (first | assumption | exact Below.refl _ _ | exact Below.size (by assumption) | (refine Below.setCell ?_ ?_ _) | (refine Below.alloc ?_ ?_ _) | (refine Below.drew ?_) | (refine below_drewN ?_ _) | (refine Below.trans ?_ (Below.mono ‹Below _ _ _› ?_)) | omega | (simp; done) | (simp; omega) | (simp at *; omega)))
      · have KK := Lib.hid fun w => (p_long (X i) false hp.symm w)
        have HI' : Hid (i' ≤ n ∧ i' ≤ k) := by show _ ∧ _; omega
        clear hi' hp hik
        go_wp2_with (first | (go_at_call 27; (with_reducible refine (KK.out _).mono ?_); rintro e w1 ⟨rfl, hb1⟩; obtain ⟨hc1, hf1⟩ := bcell hb1; have hz1 := hb1.size; (try simp at hz1); (try simp only [heap_drew, World.heap_drewN] at hz1); (try simp only [heap_drew, World.heap_drewN] at hc1); (try simp only [heap_drew, World.heap_drewN] at hf1); (try have hs1 := Nat.lt_of_succ_le hz1); (try have hs2 := Nat.lt_of_succ_lt hs1); (try have y0 : w.heap.size < w1.heap.size := by omega); (try have y1 : w.heap.size + 1 < w1.heap.size := by omega); (try have y2 : w.heap.size + 2 < w1.heap.size := by omega)))
        go_roundw
        case rel => exact ⟨i', HI', rfl, by have := HW.out; (repeat' (first | assumption | exact Below.refl _ _ | exact Below.size (by assumption) | (refine Below.setCell ?_ ?_ _) | (refine Below.alloc ?_ ?_ _) | (refine Below.drew ?_) | (refine below_drewN ?_ _) | (refine Below.trans ?_ (Below.mono ‹Below _ _ _› ?_)) | omega | (simp; done) | (simp; omega) | (simp at *; omega)))⟩
        case measure => exact HMS.out
    · have e : i = n := by have := Hi.out; omega
      have HR : Hid ((-1 : Int) = v) := by show (-1 : Int) = v; rw [HV.out, if_neg (by have := Hi.out; omega)]
      have T0 : decide ((i : Int) < (n : Int)) = false := by simp <;> omega
      have T0' : decide (i < n) = false := decide_eq_false hlt
      clear e hlt
      go_wp2_with fail
      go_ret
      exact ⟨ret_int HR.out, HW.out⟩
theorem has_long (A : Option Addr) (n c : Nat) (X : Nat → ByteArray) (w : World) (h2 : n ≤ 2000) (ht : StrIn w A n X) (f : Bool) (hf : f = true ↔ ∃ j, j < n ∧ (fun j => decide (60 < (X j).size)) j = true) :
    Calls Tryz.prog 26 #[.slice A n c, .func (.func 27) #[] #[]] w fun e w' => e = .returned (.bool f) ∧ Below w.heap.size w w' := by
  obtain ⟨k, hk⟩ := first_ex (fun j => decide (60 < (X j).size)) n
  have hany := first_any hk
  have S := Lib.hid (find_long A n c k X w h2 ht hk _ rfl)
  by_cases hkn : k < n
  · have hft : f = true := hf.2 (hany.1 hkn)
    rw [if_pos hkn] at S
    have t : decide ((0 : Int) ≤ (k : Int)) = true := decide_eq_true (by omega)
    subst hft
    clear hk hany hkn hf ht h2
    go_enter Tryz.func26, Tryz.ntmps26
    go_wp2_with (first | (go_at_call 54; (with_reducible refine (S.out).mono ?_); rintro e w1 ⟨rfl, hb1⟩; obtain ⟨hc1, hf1⟩ := bcell hb1; have hz1 := hb1.size; (try simp at hz1); (try simp only [heap_drew, World.heap_drewN] at hz1); (try simp only [heap_drew, World.heap_drewN] at hc1); (try simp only [heap_drew, World.heap_drewN] at hf1); (try have hs1 := Nat.lt_of_succ_le hz1); (try have hs2 := Nat.lt_of_succ_lt hs1); (try have y0 : w.heap.size < w1.heap.size := by omega); (try have y1 : w.heap.size + 1 < w1.heap.size := by omega); (try have y2 : w.heap.size + 2 < w1.heap.size := by omega)))
    go_ret
    refine ⟨rfl, ?_⟩
    (repeat' (first | assumption | exact Below.refl _ _ | exact Below.size (by assumption) | (refine Below.setCell ?_ ?_ _) | (refine Below.alloc ?_ ?_ _) | (refine Below.drew ?_) | (refine below_drewN ?_ _) | (refine Below.trans ?_ (Below.mono ‹Below _ _ _› ?_)) | omega | (simp; done) | (simp; omega) | (simp at *; omega)))
  · have hft : f = false := by
      cases f with
      | false => rfl
      | true => exact absurd (hany.2 (hf.1 rfl)) hkn
    rw [if_neg hkn] at S
    subst hft
    clear hk hany hkn hf ht h2
    go_enter Tryz.func26, Tryz.ntmps26
    go_wp2_with (first | (go_at_call 54; (with_reducible refine (S.out).mono ?_); rintro e w1 ⟨rfl, hb1⟩; obtain ⟨hc1, hf1⟩ := bcell hb1; have hz1 := hb1.size; (try simp at hz1); (try simp only [heap_drew, World.heap_drewN] at hz1); (try simp only [heap_drew, World.heap_drewN] at hc1); (try simp only [heap_drew, World.heap_drewN] at hf1); (try have hs1 := Nat.lt_of_succ_le hz1); (try have hs2 := Nat.lt_of_succ_lt hs1); (try have y0 : w.heap.size < w1.heap.size := by omega); (try have y1 : w.heap.size + 1 < w1.heap.size := by omega); (try have y2 : w.heap.size + 2 < w1.heap.size := by omega)))
    go_ret
    refine ⟨rfl, ?_⟩
    (repeat' (first | assumption | exact Below.refl _ _ | exact Below.size (by assumption) | (refine Below.setCell ?_ ?_ _) | (refine Below.alloc ?_ ?_ _) | (refine Below.drew ?_) | (refine below_drewN ?_ _) | (refine Below.trans ?_ (Below.mono ‹Below _ _ _› ?_)) | omega | (simp; done) | (simp; omega) | (simp at *; omega)))
theorem tspf (z : Int) (f : Bool) (hf : f = decide (-72057594037927936 ≤ z ∧ z ≤ 72057594037927936)) (w : World) : Calls Tryz.prog 83 #[.int .i64 z] w fun e w' => e = .returned (.bool f) ∧ w = w' := by
  subst hf
  by_cases h1 : -72057594037927936 ≤ z
  case neg =>
    have t1 : decide (-72057594037927936 ≤ z) = false := decide_eq_false h1
    rw [decide_eq_false (show ¬ (-72057594037927936 ≤ z ∧ z ≤ 72057594037927936) from fun h => h1 h.1)]
    clear h1
    go_enter Tryz.func83, Tryz.ntmps83
    go_wp2_with fail
    go_ret
    exact ⟨rfl, rfl⟩
  have t1 : decide (-72057594037927936 ≤ z) = true := decide_eq_true h1
  by_cases h2 : z ≤ 72057594037927936
  case neg =>
    have t2 : decide (z ≤ 72057594037927936) = false := decide_eq_false h2
    rw [decide_eq_false (show ¬ (-72057594037927936 ≤ z ∧ z ≤ 72057594037927936) from fun h => h2 h.2)]
    clear h1 h2
    go_enter Tryz.func83, Tryz.ntmps83
    go_wp2_with fail
    go_ret
    exact ⟨rfl, rfl⟩
  have t2 : decide (z ≤ 72057594037927936) = true := decide_eq_true h2
  rw [decide_eq_true (show (-72057594037927936 ≤ z ∧ z ≤ 72057594037927936) from ⟨h1, h2⟩)]
  clear h1 h2
  go_enter Tryz.func83, Tryz.ntmps83
  go_wp2_with fail
  go_ret
  exact ⟨rfl, rfl⟩
instance (a b : Int) : Decidable (spP a b) := by unfold spP; exact inferInstance
set_option maxRecDepth 100000 in
theorem tspan (lo hi : Int) (f : Bool) (hf : f = decide (spP lo hi)) (w : World) : Calls Tryz.prog 58 #[.agg #[.int .i64 lo, .int .i64 hi]] w fun e w' => e = .returned (.bool f) ∧ Below w.heap.size w w' := by
  subst hf
  have S1 := Lib.hid fun w => tspf lo _ rfl w
  have S2 := Lib.hid fun w => tspf hi _ rfl w
  by_cases h0 : lo ≤ hi
  case neg =>
    have t0 : decide (lo ≤ hi) = false := decide_eq_false h0
    rw [decide_eq_false (show ¬ spP lo hi from fun h => h0 h.1)]
    clear h0
    go_enter Tryz.func58, Tryz.ntmps58
    go_wp2_with fail
    go_ret
    exact ⟨rfl, by (repeat' (first | assumption | exact Below.refl _ _ | exact Below.size (by assumption) | (refine Below.setCell ?_ ?_ _) | (refine Below.alloc ?_ ?_ _) | (refine Below.drew ?_) | (refine below_drewN ?_ _) | (refine Below.trans ?_ (Below.mono ‹Below _ _ _› ?_)) | omega | (simp; done) | (simp; omega) | (simp at *; omega)))⟩
  have t0 : decide (lo ≤ hi) = true := decide_eq_true h0
  by_cases h1 : -72057594037927936 ≤ lo ∧ lo ≤ 72057594037927936
  case neg =>
    rw [decide_eq_false h1] at S1
    rw [decide_eq_false (show ¬ spP lo hi from fun h => h1 ⟨h.2.1, by have := h.2.2; omega⟩)]
    clear h0 h1
    go_enter Tryz.func58, Tryz.ntmps58
    go_wp2_with (first | (go_at_call 83; (with_reducible refine (S1.out _).mono ?_); rintro e w' ⟨rfl, rfl⟩))
    go_ret
    exact ⟨rfl, by (repeat' (first | assumption | exact Below.refl _ _ | exact Below.size (by assumption) | (refine Below.setCell ?_ ?_ _) | (refine Below.alloc ?_ ?_ _) | (refine Below.drew ?_) | (refine below_drewN ?_ _) | (refine Below.trans ?_ (Below.mono ‹Below _ _ _› ?_)) | omega | (simp; done) | (simp; omega) | (simp at *; omega)))⟩
  rw [decide_eq_true h1] at S1
  by_cases h2 : -72057594037927936 ≤ hi ∧ hi ≤ 72057594037927936
  case neg =>
    rw [decide_eq_false h2] at S2
    rw [decide_eq_false (show ¬ spP lo hi from fun h => h2 ⟨by have := h1.1; omega, h.2.2⟩)]
    clear h0 h1 h2
    go_enter Tryz.func58, Tryz.ntmps58
    go_wp2_with (first | ((go_at_call 83; (with_reducible refine (S1.out _).mono ?_); rintro e w' ⟨rfl, rfl⟩); clear S1) | (go_at_call 83; (with_reducible refine (S2.out _).mono ?_); rintro e w' ⟨rfl, rfl⟩))
    go_ret
    exact ⟨rfl, by (repeat' (first | assumption | exact Below.refl _ _ | exact Below.size (by assumption) | (refine Below.setCell ?_ ?_ _) | (refine Below.alloc ?_ ?_ _) | (refine Below.drew ?_) | (refine below_drewN ?_ _) | (refine Below.trans ?_ (Below.mono ‹Below _ _ _› ?_)) | omega | (simp; done) | (simp; omega) | (simp at *; omega)))⟩
  rw [decide_eq_true h2] at S2
  rw [decide_eq_true (show spP lo hi from ⟨h0, h1.1, h2.2⟩)]
  clear h0 h1 h2
  go_enter Tryz.func58, Tryz.ntmps58
  go_wp2_with (first | ((go_at_call 83; (with_reducible refine (S1.out _).mono ?_); rintro e w' ⟨rfl, rfl⟩); clear S1) | (go_at_call 83; (with_reducible refine (S2.out _).mono ?_); rintro e w' ⟨rfl, rfl⟩))
  go_ret
  exact ⟨rfl, by (repeat' (first | assumption | exact Below.refl _ _ | exact Below.size (by assumption) | (refine Below.setCell ?_ ?_ _) | (refine Below.alloc ?_ ?_ _) | (refine Below.drew ?_) | (refine below_drewN ?_ _) | (refine Below.trans ?_ (Below.mono ‹Below _ _ _› ?_)) | omega | (simp; done) | (simp; omega) | (simp at *; omega)))⟩
set_option maxRecDepth 100000 in
theorem p_span (lo hi : Int) (f : Bool) (hf : f = decide (¬ spP lo hi)) (w : World) : Calls Tryz.prog 57 #[.agg #[.int .i64 lo, .int .i64 hi]] w fun e w' => e = .returned (.bool f) ∧ Below w.heap.size w w' := by
  obtain rfl : f = !(decide (spP lo hi)) := by rw [hf]; simp
  have S := Lib.hid fun w => tspan lo hi _ rfl w
  generalize decide (spP lo hi) = g at S ⊢
  clear hf
  cases g
  all_goals
    go_enter Tryz.func57, Tryz.ntmps57
    go_wp2_with (first | (go_at_call 58; (with_reducible refine (S.out _).mono ?_); rintro e w1 ⟨rfl, hb1⟩; obtain ⟨hc1, hf1⟩ := bcell hb1; have hz1 := hb1.size; (try simp at hz1); (try simp only [heap_drew, World.heap_drewN] at hz1); (try simp only [heap_drew, World.heap_drewN] at hc1); (try simp only [heap_drew, World.heap_drewN] at hf1); (try have hs1 := Nat.lt_of_succ_le hz1); (try have hs2 := Nat.lt_of_succ_lt hs1); (try have y0 : w.heap.size < w1.heap.size := by omega); (try have y1 : w.heap.size + 1 < w1.heap.size := by omega); (try have y2 : w.heap.size + 2 < w1.heap.size := by omega)))
    go_ret
    exact ⟨rfl, by (repeat' (first | assumption | exact Below.refl _ _ | exact Below.size (by assumption) | (refine Below.setCell ?_ ?_ _) | (refine Below.alloc ?_ ?_ _) | (refine Below.drew ?_) | (refine below_drewN ?_ _) | (refine Below.trans ?_ (Below.mono ‹Below _ _ _› ?_)) | omega | (simp; done) | (simp; omega) | (simp at *; omega)))⟩
set_option maxRecDepth 100000 in
set_option maxHeartbeats 2000000 in
theorem find_span (A : Option Addr) (n c k : Nat) (X Y : Nat → Int) (w : World) (h2 : n ≤ 2000) (ht : TabIn w A n X Y) (hk : FirstAt (fun j => decide (¬ spP (X j) (Y j))) n k) (v : Int) (hv : v = if k < n then (k : Int) else -1) :
    Calls Tryz.prog 82 #[.slice A n c, .func (.func 57) #[] #[]] w fun e w' => e = .returned (.int .i64 v) ∧ Below w.heap.size w w' := by
  have HT := Lib.hid ht
  have HK := Lib.hid hk
  have H2 := Lib.hid h2
  have HV := Lib.hid hv
  clear ht hk h2 hv
  go_enter Tryz.func82, Tryz.ntmps82
  go_wp2_with fail
  go_loopw [8] (fun u wr => ∃ i : Nat, Hid (i ≤ n ∧ i ≤ k) ∧ u = .int .i64 i ∧ Hid (Below w.heap.size w wr)) (fun u _ => n - (RowKit.intOf u).toNat)
  case atStart => exact ⟨0, ⟨Nat.zero_le _, Nat.zero_le _⟩, rfl, Below.refl _ _⟩
  case round =>
    obtain ⟨i, Hi, rfl, HW⟩ := hrel
    by_cases hlt : i < n
    · have T0 : decide ((i : Int) < (n : Int)) = true := by simp <;> omega
      have T0' : decide (i < n) = true := decide_eq_true hlt
      obtain ⟨i', hi'⟩ : ∃ z, z = i + 1 := ⟨_, rfl⟩
      have x0 : IntKind.i64.wrap ((i : Int) + 1) = (i' : Int) := by have := H2.out; rw [IntKind.wrap_i64]; omega
      obtain ⟨b, off, rfl, hb, c0, c1⟩ := (HT.out.below (Nat.le_refl _) HW.out).at hlt

      have k0 : (0 : Int) ≤ (i : Int) := by omega
      have k1 : (i : Int) < (n : Int) := by omega
      have HMS : Hid (n - (RowKit.intOf (Value.int .i64 (i' : Int))).toNat < n - (RowKit.intOf (Value.int .i64 (i : Int))).toNat) := by show _ < _; simp [RowKit.intOf]; omega
      rcases first_at HK.out hlt Hi.out.2 with ⟨hp, hik⟩ | ⟨hp, hik⟩
      · have KK := Lib.hid fun w => (p_span (X i) (Y i) true hp.symm w)
        have HR : Hid ((i : Int) = v) := by show (i : Int) = v; rw [HV.out, hik, if_pos (by omega)]
        clear hi' hp hik
        go_wp2_with (first | (go_at_call 57; (with_reducible refine (KK.out _).mono ?_); rintro e w1 ⟨rfl, hb1⟩; obtain ⟨hc1, hf1⟩ := bcell hb1; have hz1 := hb1.size; (try simp at hz1); (try simp only [heap_drew, World.heap_drewN] at hz1); (try simp only [heap_drew, World.heap_drewN] at hc1); (try simp only [heap_drew, World.heap_drewN] at hf1); (try have hs1 := Nat.lt_of_succ_le hz1); (try have hs2 := Nat.lt_of_succ_lt hs1); (try have y0 : w.heap.size < w1.heap.size := by omega); (try have y1 : w.heap.size + 1 < w1.heap.size := by omega); (try have y2 : w.heap.size + 2 < w1.heap.size := by omega)))
        go_ret
        refine ⟨ret_int HR.out, ?_⟩
        have := HW.out
        (repeat' (first | assumption | exact Below.refl _ _ | exact Below.size (by assumption) | (refine Below.setCell ?_ ?_ _) | (refine Below.alloc ?_ ?_ _) | (refine Below.drew ?_) | (refine below_drewN ?_ _) | (refine Below.trans ?_ (Below.mono ‹Below _ _ _› ?_)) | omega | (simp; done) | (simp; omega) | (simp at *; omega)))
      · have KK := Lib.hid fun w => (p_span (X i) (Y i) false hp.symm w)
        have HI' : Hid (i' ≤ n ∧ i' ≤ k) := by show _ ∧ _; omega
        clear hi' hp hik
        go_wp2_with (first | (go_at_call 57; (with_reducible refine (KK.out _).mono ?_); rintro e w1 ⟨rfl, hb1⟩; obtain ⟨hc1, hf1⟩ := bcell hb1; have hz1 := hb1.size; (try simp at hz1); (try simp only [heap_drew, World.heap_drewN] at hz1); (try simp only [heap_drew, World.heap_drewN] at hc1); (try simp only [heap_drew, World.heap_drewN] at hf1); (try have hs1 := Nat.lt_of_succ_le hz1); (try have hs2 := Nat.lt_of_succ_lt hs1); (try have y0 : w.heap.size < w1.heap.size := by omega); (try have y1 : w.heap.size + 1 < w1.heap.size := by omega); (try have y2 : w.heap.size + 2 < w1.heap.size := by omega)))
        go_roundw
        case rel => exact ⟨i', HI', rfl, by have := HW.out; (repeat' (first | assumption | exact Below.refl _ _ | exact Below.size (by assumption) | (refine Below.setCell ?_ ?_ _) | (refine Below.alloc ?_ ?_ _) | (refine Below.drew ?_) | (refine below_drewN ?_ _) | (refine Below.trans ?_ (Below.mono ‹Below _ _ _› ?_)) | omega | (simp; done) | (simp; omega) | (simp at *; omega)))⟩
        case measure => exact HMS.out
    · have e : i = n := by have := Hi.out; omega
      have HR : Hid ((-1 : Int) = v) := by show (-1 : Int) = v; rw [HV.out, if_neg (by have := Hi.out; omega)]
      have T0 : decide ((i : Int) < (n : Int)) = false := by simp <;> omega
      have T0' : decide (i < n) = false := decide_eq_false hlt
      clear e hlt
      go_wp2_with fail
      go_ret
      exact ⟨ret_int HR.out, HW.out⟩
theorem has_span (A : Option Addr) (n c : Nat) (X Y : Nat → Int) (w : World) (h2 : n ≤ 2000) (ht : TabIn w A n X Y) (f : Bool) (hf : f = true ↔ ∃ j, j < n ∧ (fun j => decide (¬ spP (X j) (Y j))) j = true) :
    Calls Tryz.prog 56 #[.slice A n c, .func (.func 57) #[] #[]] w fun e w' => e = .returned (.bool f) ∧ Below w.heap.size w w' := by
  obtain ⟨k, hk⟩ := first_ex (fun j => decide (¬ spP (X j) (Y j))) n
  have hany := first_any hk
  have S := Lib.hid (find_span A n c k X Y w h2 ht hk _ rfl)
  by_cases hkn : k < n
  · have hft : f = true := hf.2 (hany.1 hkn)
    rw [if_pos hkn] at S
    have t : decide ((0 : Int) ≤ (k : Int)) = true := decide_eq_true (by omega)
    subst hft
    clear hk hany hkn hf ht h2
    go_enter Tryz.func56, Tryz.ntmps56
    go_wp2_with (first | (go_at_call 82; (with_reducible refine (S.out).mono ?_); rintro e w1 ⟨rfl, hb1⟩; obtain ⟨hc1, hf1⟩ := bcell hb1; have hz1 := hb1.size; (try simp at hz1); (try simp only [heap_drew, World.heap_drewN] at hz1); (try simp only [heap_drew, World.heap_drewN] at hc1); (try simp only [heap_drew, World.heap_drewN] at hf1); (try have hs1 := Nat.lt_of_succ_le hz1); (try have hs2 := Nat.lt_of_succ_lt hs1); (try have y0 : w.heap.size < w1.heap.size := by omega); (try have y1 : w.heap.size + 1 < w1.heap.size := by omega); (try have y2 : w.heap.size + 2 < w1.heap.size := by omega)))
    go_ret
    refine ⟨rfl, ?_⟩
    (repeat' (first | assumption | exact Below.refl _ _ | exact Below.size (by assumption) | (refine Below.setCell ?_ ?_ _) | (refine Below.alloc ?_ ?_ _) | (refine Below.drew ?_) | (refine below_drewN ?_ _) | (refine Below.trans ?_ (Below.mono ‹Below _ _ _› ?_)) | omega | (simp; done) | (simp; omega) | (simp at *; omega)))
  · have hft : f = false := by
      cases f with
      | false => rfl
      | true => exact absurd (hany.2 (hf.1 rfl)) hkn
    rw [if_neg hkn] at S
    subst hft
    clear hk hany hkn hf ht h2
    go_enter Tryz.func56, Tryz.ntmps56
    go_wp2_with (first | (go_at_call 82; (with_reducible refine (S.out).mono ?_); rintro e w1 ⟨rfl, hb1⟩; obtain ⟨hc1, hf1⟩ := bcell hb1; have hz1 := hb1.size; (try simp at hz1); (try simp only [heap_drew, World.heap_drewN] at hz1); (try simp only [heap_drew, World.heap_drewN] at hc1); (try simp only [heap_drew, World.heap_drewN] at hf1); (try have hs1 := Nat.lt_of_succ_le hz1); (try have hs2 := Nat.lt_of_succ_lt hs1); (try have y0 : w.heap.size < w1.heap.size := by omega); (try have y1 : w.heap.size + 1 < w1.heap.size := by omega); (try have y2 : w.heap.size + 2 < w1.heap.size := by omega)))
    go_ret
    refine ⟨rfl, ?_⟩
    (repeat' (first | assumption | exact Below.refl _ _ | exact Below.size (by assumption) | (refine Below.setCell ?_ ?_ _) | (refine Below.alloc ?_ ?_ _) | (refine Below.drew ?_) | (refine below_drewN ?_ _) | (refine Below.trans ?_ (Below.mono ‹Below _ _ _› ?_)) | omega | (simp; done) | (simp; omega) | (simp at *; omega)))
/-- Too many sections; too many names, or long ones. -/
def mnP (C : Scs) (c : Nat) : Prop := 8 < c ∨ (∃ j, j < c ∧ (fun j => decide (20 < C.AN j ∨ 20 < C.BN j ∨ 60 < (C.Nm j).size)) j = true)
def loP (N : Nat → ByteArray) (p : Nat) : Prop := (30 < p ∧ p ≤ 300) ∨ 305 < p ∨ (∃ j, j < p ∧ (fun j => decide (60 < (N j).size)) j = true)
theorem mn_not {C : Scs} {c : Nat} (h : ¬ mnP C c) : c ≤ 8 ∧ ∀ i, i < c → C.AN i ≤ 20 ∧ C.BN i ≤ 20 ∧ (C.Nm i).size ≤ 60 := by
  unfold mnP at h
  refine ⟨?_, fun i hi => ?_⟩
  · rcases Nat.lt_or_ge 8 c with g | g
    · exact absurd (.inl g) h
    · exact g
  · have : ¬ (20 < C.AN i ∨ 20 < C.BN i ∨ 60 < (C.Nm i).size) := fun g => h (.inr ⟨i, hi, decide_eq_true g⟩)
    omega
theorem lo_not {N : Nat → ByteArray} {p : Nat} (h : ¬ loP N p) : (p ≤ 30 ∨ 300 < p) ∧ p ≤ 305 ∧ ∀ i, i < p → (N i).size ≤ 60 := by
  unfold loP at h
  refine ⟨?_, ?_, fun i hi => ?_⟩
  · by_cases g : 30 < p ∧ p ≤ 300
    · exact absurd (.inl g) h
    · omega
  · by_cases g : 305 < p
    · exact absurd (.inr (.inl g)) h
    · omega
  · have : ¬ (60 < (N i).size) := fun g => h (.inr (.inr ⟨i, hi, decide_eq_true g⟩))
    omega
set_option maxRecDepth 100000 in
theorem tmany (A : Option Addr) (c cc : Nat) (C : Scs) (w : World) (hC : ScIn w A c C) :
    Calls Tryz.prog 7 #[.slice A c cc] w fun e w' => e = .returned (.bool (boolOf (mnP C c))) ∧ Below w.heap.size w w' := by
  have HC := Lib.hid hC
  by_cases h1 : 8 < c
  case pos =>
    rw [boolOf_true (show mnP C c from .inl h1)]
    have t1 : decide ((8 : Int) < (c : Int)) = true := decide_eq_true (by omega)
    have t1' : decide (8 < c) = true := decide_eq_true (by omega)
    clear h1 hC
    go_enter Tryz.func7, Tryz.ntmps7
    go_wp2_with fail
    go_ret
    exact ⟨rfl, by (repeat' (first | assumption | exact Below.refl _ _ | exact Below.size (by assumption) | (refine Below.setCell ?_ ?_ _) | (refine Below.alloc ?_ ?_ _) | (refine Below.drew ?_) | (refine below_drewN ?_ _) | (refine Below.trans ?_ (Below.mono ‹Below _ _ _› ?_)) | omega | (simp; done) | (simp; omega) | (simp at *; omega)))⟩
  have t1 : decide ((8 : Int) < (c : Int)) = false := decide_eq_false (by omega)
  have t1' : decide (8 < c) = false := decide_eq_false (by omega)
  by_cases h2 : ∃ j, j < c ∧ (fun j => decide (20 < C.AN j ∨ 20 < C.BN j ∨ 60 < (C.Nm j).size)) j = true
  case pos =>
    rw [boolOf_true (show mnP C c from .inr h2)]
    have S := Lib.hid fun w hC => has_many A c cc C w (by omega) hC true ⟨fun _ => h2, fun _ => rfl⟩
    clear h1 h2 hC
    go_enter Tryz.func7, Tryz.ntmps7
    go_wp2_with (first | (go_at_call 24; (with_reducible refine (S.out _ HC.out).mono ?_); rintro e w1 ⟨rfl, hb1⟩; obtain ⟨hc1, hf1⟩ := bcell hb1; have hz1 := hb1.size; (try simp at hz1); (try simp only [heap_drew, World.heap_drewN] at hz1); (try simp only [heap_drew, World.heap_drewN] at hc1); (try simp only [heap_drew, World.heap_drewN] at hf1); (try have hs1 := Nat.lt_of_succ_le hz1); (try have hs2 := Nat.lt_of_succ_lt hs1); (try have y0 : w.heap.size < w1.heap.size := by omega); (try have y1 : w.heap.size + 1 < w1.heap.size := by omega); (try have y2 : w.heap.size + 2 < w1.heap.size := by omega)))
    go_ret
    exact ⟨rfl, by (repeat' (first | assumption | exact Below.refl _ _ | exact Below.size (by assumption) | (refine Below.setCell ?_ ?_ _) | (refine Below.alloc ?_ ?_ _) | (refine Below.drew ?_) | (refine below_drewN ?_ _) | (refine Below.trans ?_ (Below.mono ‹Below _ _ _› ?_)) | omega | (simp; done) | (simp; omega) | (simp at *; omega)))⟩
  have S := Lib.hid fun w hC => has_many A c cc C w (by omega) hC false ⟨fun h => (by cases h), fun h => absurd h h2⟩
  rw [boolOf_false (show ¬ mnP C c from fun h => h.elim h1 h2)]
  clear h1 h2 hC
  go_enter Tryz.func7, Tryz.ntmps7
  go_wp2_with (first | (go_at_call 24; (with_reducible refine (S.out _ HC.out).mono ?_); rintro e w1 ⟨rfl, hb1⟩; obtain ⟨hc1, hf1⟩ := bcell hb1; have hz1 := hb1.size; (try simp at hz1); (try simp only [heap_drew, World.heap_drewN] at hz1); (try simp only [heap_drew, World.heap_drewN] at hc1); (try simp only [heap_drew, World.heap_drewN] at hf1); (try have hs1 := Nat.lt_of_succ_le hz1); (try have hs2 := Nat.lt_of_succ_lt hs1); (try have y0 : w.heap.size < w1.heap.size := by omega); (try have y1 : w.heap.size + 1 < w1.heap.size := by omega); (try have y2 : w.heap.size + 2 < w1.heap.size := by omega)))
  go_ret
  exact ⟨rfl, by (repeat' (first | assumption | exact Below.refl _ _ | exact Below.size (by assumption) | (refine Below.setCell ?_ ?_ _) | (refine Below.alloc ?_ ?_ _) | (refine Below.drew ?_) | (refine below_drewN ?_ _) | (refine Below.trans ?_ (Below.mono ‹Below _ _ _› ?_)) | omega | (simp; done) | (simp; omega) | (simp at *; omega)))⟩
set_option maxRecDepth 100000 in
theorem tlong (A : Option Addr) (p pc : Nat) (N : Nat → ByteArray) (w : World) (hN : StrIn w A p N) :
    Calls Tryz.prog 8 #[.slice A p pc] w fun e w' => e = .returned (.bool (boolOf (loP N p))) ∧ Below w.heap.size w w' := by
  have HN := Lib.hid hN
  by_cases h1 : 30 < p ∧ p ≤ 300
  case pos =>
    rw [boolOf_true (show loP N p from .inl h1)]
    have t1 : decide ((30 : Int) < (p : Int)) = true := decide_eq_true (by omega)
    have t1' : decide (30 < p) = true := decide_eq_true (by omega)
    have t2 : decide ((p : Int) ≤ 300) = true := decide_eq_true (by omega)
    have t2' : decide (p ≤ 300) = true := decide_eq_true (by omega)
    clear h1 hN
    go_enter Tryz.func8, Tryz.ntmps8
    go_wp2_with fail
    go_ret
    exact ⟨rfl, by (repeat' (first | assumption | exact Below.refl _ _ | exact Below.size (by assumption) | (refine Below.setCell ?_ ?_ _) | (refine Below.alloc ?_ ?_ _) | (refine Below.drew ?_) | (refine below_drewN ?_ _) | (refine Below.trans ?_ (Below.mono ‹Below _ _ _› ?_)) | omega | (simp; done) | (simp; omega) | (simp at *; omega)))⟩
  by_cases h2 : 305 < p
  case pos =>
    rw [boolOf_true (show loP N p from .inr (.inl h2))]
    have t1 : decide ((30 : Int) < (p : Int)) = true := decide_eq_true (by omega)
    have t1' : decide (30 < p) = true := decide_eq_true (by omega)
    have t2 : decide ((p : Int) ≤ 300) = false := decide_eq_false (by omega)
    have t2' : decide (p ≤ 300) = false := decide_eq_false (by omega)
    have t3 : decide ((305 : Int) < (p : Int)) = true := decide_eq_true (by omega)
    have t3' : decide (305 < p) = true := decide_eq_true (by omega)
    clear h1 h2 hN
    go_enter Tryz.func8, Tryz.ntmps8
    go_wp2_with fail
    go_ret
    exact ⟨rfl, by (repeat' (first | assumption | exact Below.refl _ _ | exact Below.size (by assumption) | (refine Below.setCell ?_ ?_ _) | (refine Below.alloc ?_ ?_ _) | (refine Below.drew ?_) | (refine below_drewN ?_ _) | (refine Below.trans ?_ (Below.mono ‹Below _ _ _› ?_)) | omega | (simp; done) | (simp; omega) | (simp at *; omega)))⟩
  have t3 : decide ((305 : Int) < (p : Int)) = false := decide_eq_false (by omega)
  have t3' : decide (305 < p) = false := decide_eq_false (by omega)
  obtain ⟨f, hf⟩ : ∃ f, f = boolOf (loP N p) := ⟨_, rfl⟩
  have S := Lib.hid fun w hN => has_long A p pc N w (by omega) hN f (by
    rw [hf]
    constructor
    · intro h
      rcases of_boolOf h with g | g | g
      · exact absurd g h1
      · exact absurd g h2
      · exact g
    · intro h
      exact boolOf_true (.inr (.inr h)))
  rw [← hf]
  by_cases h4 : 30 < p
  · have t1 : decide ((30 : Int) < (p : Int)) = true := decide_eq_true (by omega)
    have t1' : decide (30 < p) = true := decide_eq_true (by omega)
    have t2 : decide ((p : Int) ≤ 300) = false := decide_eq_false (by omega)
    have t2' : decide (p ≤ 300) = false := decide_eq_false (by omega)
    clear h1 h2 h4 hN hf
    cases f
    all_goals
      go_enter Tryz.func8, Tryz.ntmps8
      go_wp2_with (first | (go_at_call 26; (with_reducible refine (S.out _ HN.out).mono ?_); rintro e w1 ⟨rfl, hb1⟩; obtain ⟨hc1, hf1⟩ := bcell hb1; have hz1 := hb1.size; (try simp at hz1); (try simp only [heap_drew, World.heap_drewN] at hz1); (try simp only [heap_drew, World.heap_drewN] at hc1); (try simp only [heap_drew, World.heap_drewN] at hf1); (try have hs1 := Nat.lt_of_succ_le hz1); (try have hs2 := Nat.lt_of_succ_lt hs1); (try have y0 : w.heap.size < w1.heap.size := by omega); (try have y1 : w.heap.size + 1 < w1.heap.size := by omega); (try have y2 : w.heap.size + 2 < w1.heap.size := by omega)))
      go_ret
      exact ⟨rfl, by (repeat' (first | assumption | exact Below.refl _ _ | exact Below.size (by assumption) | (refine Below.setCell ?_ ?_ _) | (refine Below.alloc ?_ ?_ _) | (refine Below.drew ?_) | (refine below_drewN ?_ _) | (refine Below.trans ?_ (Below.mono ‹Below _ _ _› ?_)) | omega | (simp; done) | (simp; omega) | (simp at *; omega)))⟩
  · have t1 : decide ((30 : Int) < (p : Int)) = false := decide_eq_false (by omega)
    have t1' : decide (30 < p) = false := decide_eq_false (by omega)
    clear h1 h2 h4 hN hf
    cases f
    all_goals
      go_enter Tryz.func8, Tryz.ntmps8
      go_wp2_with (first | (go_at_call 26; (with_reducible refine (S.out _ HN.out).mono ?_); rintro e w1 ⟨rfl, hb1⟩; obtain ⟨hc1, hf1⟩ := bcell hb1; have hz1 := hb1.size; (try simp at hz1); (try simp only [heap_drew, World.heap_drewN] at hz1); (try simp only [heap_drew, World.heap_drewN] at hc1); (try simp only [heap_drew, World.heap_drewN] at hf1); (try have hs1 := Nat.lt_of_succ_le hz1); (try have hs2 := Nat.lt_of_succ_lt hs1); (try have y0 : w.heap.size < w1.heap.size := by omega); (try have y1 : w.heap.size + 1 < w1.heap.size := by omega); (try have y2 : w.heap.size + 2 < w1.heap.size := by omega)))
      go_ret
      exact ⟨rfl, by (repeat' (first | assumption | exact Below.refl _ _ | exact Below.size (by assumption) | (refine Below.setCell ?_ ?_ _) | (refine Below.alloc ?_ ?_ _) | (refine Below.drew ?_) | (refine below_drewN ?_ _) | (refine Below.trans ?_ (Below.mono ‹Below _ _ _› ?_)) | omega | (simp; done) | (simp; omega) | (simp at *; omega)))⟩
end Go.Proofs.YtdgfljkhnifemaaGreatDoor

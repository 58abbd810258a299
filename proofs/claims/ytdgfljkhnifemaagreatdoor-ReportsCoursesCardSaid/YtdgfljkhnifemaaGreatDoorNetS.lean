/- Small predicates of the reference of networks. -/
import Derived.Test.YtdgfljkhnifemaaGreatDoorNetH
namespace Go.Proofs.YtdgfljkhnifemaaGreatDoor
open Go.RowKit
set_option linter.unusedVariables false
set_option linter.unusedSimpArgs false

theorem rposit (z : Int) (w : World) : Calls Tryz.prog 121 #[.int .i64 z] w fun e w' => e = .returned (.bool (decide (poP z))) ∧ w = w' := by
  by_cases h1 : -16777216 ≤ z
  · have t1 : decide (-16777216 ≤ z) = true := decide_eq_true h1
    by_cases h2 : z ≤ 16777216
    · have t2 : decide (z ≤ 16777216) = true := decide_eq_true h2
      rw [decide_eq_true (show poP z from ⟨h1, h2⟩)]
      clear h1 h2
      go_enter Tryz.func121, Tryz.ntmps121
      go_wp2_with fail
      go_ret
      exact ⟨rfl, rfl⟩
    · have t2 : decide (z ≤ 16777216) = false := decide_eq_false h2
      rw [decide_eq_false (show ¬ (poP z) from fun h => h2 h.2)]
      clear h1 h2
      go_enter Tryz.func121, Tryz.ntmps121
      go_wp2_with fail
      go_ret
      exact ⟨rfl, rfl⟩
  · have t1 : decide (-16777216 ≤ z) = false := decide_eq_false h1
    rw [decide_eq_false (show ¬ (poP z) from fun h => h1 h.1)]
    clear h1
    go_enter Tryz.func121, Tryz.ntmps121
    go_wp2_with fail
    go_ret
    exact ⟨rfl, rfl⟩
theorem rlev (z : Int) (w : World) : Calls Tryz.prog 122 #[.int .i64 z] w fun e w' => e = .returned (.bool (decide (lvP z))) ∧ w = w' := by
  by_cases h1 : -4194304 ≤ z
  · have t1 : decide (-4194304 ≤ z) = true := decide_eq_true h1
    by_cases h2 : z ≤ 4194304
    · have t2 : decide (z ≤ 4194304) = true := decide_eq_true h2
      rw [decide_eq_true (show lvP z from ⟨h1, h2⟩)]
      clear h1 h2
      go_enter Tryz.func122, Tryz.ntmps122
      go_wp2_with fail
      go_ret
      exact ⟨rfl, rfl⟩
    · have t2 : decide (z ≤ 4194304) = false := decide_eq_false h2
      rw [decide_eq_false (show ¬ (lvP z) from fun h => h2 h.2)]
      clear h1 h2
      go_enter Tryz.func122, Tryz.ntmps122
      go_wp2_with fail
      go_ret
      exact ⟨rfl, rfl⟩
  · have t1 : decide (-4194304 ≤ z) = false := decide_eq_false h1
    rw [decide_eq_false (show ¬ (lvP z) from fun h => h1 h.1)]
    clear h1
    go_enter Tryz.func122, Tryz.ntmps122
    go_wp2_with fail
    go_ret
    exact ⟨rfl, rfl⟩
theorem rwithin (z m : Int) (w : World) : Calls Tryz.prog 124 #[.int .i64 z, .int .i64 m] w fun e w' => e = .returned (.bool (decide (1 ≤ z ∧ z ≤ m))) ∧ w = w' := by
  by_cases h1 : 1 ≤ z
  · have t1 : decide (1 ≤ z) = true := decide_eq_true h1
    by_cases h2 : z ≤ m
    · have t2 : decide (z ≤ m) = true := decide_eq_true h2
      rw [decide_eq_true (show 1 ≤ z ∧ z ≤ m from ⟨h1, h2⟩)]
      clear h1 h2
      go_enter Tryz.func124, Tryz.ntmps124
      go_wp2_with fail
      go_ret
      exact ⟨rfl, rfl⟩
    · have t2 : decide (z ≤ m) = false := decide_eq_false h2
      rw [decide_eq_false (show ¬ (1 ≤ z ∧ z ≤ m) from fun h => h2 h.2)]
      clear h1 h2
      go_enter Tryz.func124, Tryz.ntmps124
      go_wp2_with fail
      go_ret
      exact ⟨rfl, rfl⟩
  · have t1 : decide (1 ≤ z) = false := decide_eq_false h1
    rw [decide_eq_false (show ¬ (1 ≤ z ∧ z ≤ m) from fun h => h1 h.1)]
    clear h1
    go_enter Tryz.func124, Tryz.ntmps124
    go_wp2_with fail
    go_ret
    exact ⟨rfl, rfl⟩
set_option maxHeartbeats 1000000 in
theorem rshape (A : Option Addr) (n c : Nat) (X Y : Nat → Int) (h : Int) (w : World) (ht : TabIn w A n X Y) :
    Calls Tryz.prog 123 #[.slice A n c, .int .i64 h] w fun e w' => e = .returned (.bool (boolOf (CurveOK n X Y h 1125899906842624))) ∧ Below w.heap.size w w' := by
  have C := Lib.hid fun w ht => rvalid_any A n c X Y w ht
  obtain ⟨f, hf⟩ : ∃ f, Hid (f = boolOf (CurveOK n X Y h 1125899906842624)) := ⟨_, rfl⟩
  rw [← hf.out]
  by_cases hv : TabOK n X Y
  · rcases ht.2 with h0 | ⟨b, off, rfl, hT⟩
    · exact absurd hv.1 (by omega)
    · have HT := Lib.hid ht
      obtain ⟨m, rfl⟩ : ∃ m, n = m + 1 := ⟨n - 1, by have := hv.1; omega⟩
      have hb := hT.1
      have f0 := (hT.2 0 (by omega)).1
      have f1 := (hT.2 0 (by omega)).2
      have l0 := (hT.2 m (by omega)).1
      have l1 := (hT.2 m (by omega)).2
      have e2 : IntKind.i64.wrap ((m : Int) + 1 - 1) = (m : Int) := by rw [IntKind.wrap_i64]; have := hv.2.1; omega
      have e3 : IntKind.i64.wrap (m : Int) = (m : Int) := by rw [IntKind.wrap_i64]; have := hv.2.1; omega
      have tv := tabB_true hv
      simp only [Nat.zero_mul, Nat.add_zero] at f0 f1
      clear ht hT
      go_enter Tryz.func123, Tryz.ntmps123
      go_wp2_with (first | (go_at_call 128; (with_reducible refine (C.out _ HT.out).mono ?_); rintro e w1 ⟨rfl, hb1⟩; obtain ⟨hc1, hf1⟩ := bcell hb1; have hz1 := hb1.size; (try simp at hz1); (try simp only [heap_drew, World.heap_drewN] at hz1); (try simp only [heap_drew, World.heap_drewN] at hc1); (try simp only [heap_drew, World.heap_drewN] at hf1); (try have hs1 := Nat.lt_of_succ_le hz1); (try have hs2 := Nat.lt_of_succ_lt hs1); (try have y0 : w.heap.size < w1.heap.size := by omega); (try have y1 : w.heap.size + 1 < w1.heap.size := by omega); (try have y2 : w.heap.size + 2 < w1.heap.size := by omega); (try have yb : b < w1.heap.size := by omega)))
      all_goals (go_ret; refine ⟨ret_bool (by rw [hf.out]; exact boolOf_eq (by simp [CurveOK, *])), ?_⟩; (repeat' (first | assumption | exact Below.refl _ _ | exact Below.size (by assumption) | (refine Below.setCell ?_ ?_ _) | (refine Below.alloc ?_ ?_ _) | (refine Below.drew ?_) | (refine below_drewN ?_ _) | (refine Below.trans ?_ (Below.mono ‹Below _ _ _› ?_)) | omega | (simp; done) | (simp; omega) | (simp at *; omega))))
  · obtain rfl : f = false := by rw [hf.out]; exact boolOf_false fun h => hv h.1
    have tv := tabB_false hv
    have HT := Lib.hid ht
    clear ht
    go_enter Tryz.func123, Tryz.ntmps123
    go_wp2_with (first | (go_at_call 128; (with_reducible refine (C.out _ HT.out).mono ?_); rintro e w1 ⟨rfl, hb1⟩; obtain ⟨hc1, hf1⟩ := bcell hb1; have hz1 := hb1.size; (try simp at hz1); (try simp only [heap_drew, World.heap_drewN] at hz1); (try simp only [heap_drew, World.heap_drewN] at hc1); (try simp only [heap_drew, World.heap_drewN] at hf1); (try have hs1 := Nat.lt_of_succ_le hz1); (try have hs2 := Nat.lt_of_succ_lt hs1); (try have y0 : w.heap.size < w1.heap.size := by omega); (try have y1 : w.heap.size + 1 < w1.heap.size := by omega); (try have y2 : w.heap.size + 2 < w1.heap.size := by omega)))
    go_ret
    refine ⟨rfl, ?_⟩
    (repeat' (first | assumption | exact Below.refl _ _ | exact Below.size (by assumption) | (refine Below.setCell ?_ ?_ _) | (refine Below.alloc ?_ ?_ _) | (refine Below.drew ?_) | (refine below_drewN ?_ _) | (refine Below.trans ?_ (Below.mono ‹Below _ _ _› ?_)) | omega | (simp; done) | (simp; omega) | (simp at *; omega)))
end Go.Proofs.YtdgfljkhnifemaaGreatDoor

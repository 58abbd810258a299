/- The package's dates: months, DateOf, Split. -/
import Derived.Test.YtigocjhmgmhocaaGreatDoorClk
namespace Go.Proofs.YtigocjhmgmhocaaGreatDoor
open Go.RowKit Go.Sort
set_option linter.unusedVariables false
set_option linter.unusedSimpArgs false

def leapB (y : Int) : Bool := decide (leapP y)
/-- The length of a month. -/
def lens (lp : Bool) : Nat → Int
  | 1 => 31 | 2 => if lp then 29 else 28 | 3 => 31 | 4 => 30 | 5 => 31 | 6 => 30 | 7 => 31 | 8 => 31 | 9 => 30 | 10 => 31 | 11 => 30 | 12 => 31 | _ => 0
/-- The days from a month on. -/
def tail_ (lp : Bool) : Nat → Int
  | 1 => (if lp then 29 else 28) + 337 | 2 => (if lp then 29 else 28) + 306 | 3 => 306 | 4 => 275 | 5 => 245 | 6 => 214 | 7 => 184 | 8 => 153 | 9 => 122 | 10 => 92 | 11 => 61 | 12 => 31 | _ => 0
theorem twelve {m : Nat} (h1 : 1 ≤ m) (h2 : m ≤ 12) : m = 1 ∨ m = 2 ∨ m = 3 ∨ m = 4 ∨ m = 5 ∨ m = 6 ∨ m = 7 ∨ m = 8 ∨ m = 9 ∨ m = 10 ∨ m = 11 ∨ m = 12 := by omega
theorem tail_step (lp : Bool) {m : Nat} (h1 : 1 ≤ m) (h2 : m ≤ 12) : tail_ lp m = lens lp m + tail_ lp (m + 1) := by
  rcases twelve h1 h2 with rfl | rfl | rfl | rfl | rfl | rfl | rfl | rfl | rfl | rfl | rfl | rfl <;> cases lp <;> rfl
theorem lens_bound (lp : Bool) {m : Nat} (h1 : 1 ≤ m) (h2 : m ≤ 12) : 28 ≤ lens lp m ∧ lens lp m ≤ 31 := by
  rcases twelve h1 h2 with rfl | rfl | rfl | rfl | rfl | rfl | rfl | rfl | rfl | rfl | rfl | rfl <;> cases lp <;> decide
theorem tail_1 (y : Int) : tail_ (leapB y) 1 = yb (y + 1) - yb y := by
  rw [yb_step]
  unfold leapB tail_
  by_cases h : leapP y
  · simp [h]; omega
  · simp [h]; omega
theorem tleap (y : Nat) (h1 : 1 ≤ y) (h2 : y ≤ 9999) (w : World) : Calls Tryz.prog 129 #[.int .i64 (y : Int)] w fun e w' => e = .returned (.bool (leapB y)) ∧ w = w' := by
  obtain ⟨a, ha⟩ : ∃ a : Nat, a = y % 4 := ⟨_, rfl⟩
  obtain ⟨b, hb⟩ : ∃ b : Nat, b = y % 100 := ⟨_, rfl⟩
  obtain ⟨c, hc⟩ : ∃ c : Nat, c = y % 400 := ⟨_, rfl⟩
  have e1 : Int.tmod (y : Int) 4 = (a : Int) := by rw [ha]; exact Int.ofNat_tmod y 4
  have e2 : Int.tmod (y : Int) 100 = (b : Int) := by rw [hb]; exact Int.ofNat_tmod y 100
  have e3 : Int.tmod (y : Int) 400 = (c : Int) := by rw [hc]; exact Int.ofNat_tmod y 400
  have HL : Hid (leapB y = ((decide (a = 0) && !decide (b = 0)) || decide (c = 0))) := by
    show leapB y = _
    have hl : leapP (y : Int) ↔ (a = 0 ∧ ¬ b = 0) ∨ c = 0 := by unfold leapP; omega
    rw [Bool.eq_iff_iff]
    unfold leapB
    rw [decide_eq_true_iff, hl]
    simp
  clear h1 h2 ha hb hc
  go_enter Tryz.func129, Tryz.ntmps129
  go_wp2
  all_goals (go_ret; refine ⟨ret_bool ?_, rfl⟩; rw [HL.out, Bool.eq_iff_iff]; simp [*]; try omega)
set_option maxRecDepth 100000 in
set_option maxHeartbeats 4000000 in
theorem tmonth (y m : Nat) (h1 : 1 ≤ y) (h2 : y ≤ 9999) (m1 : 1 ≤ m) (m2 : m ≤ 12) (w : World) : Calls Tryz.prog 113 #[.int .i64 (y : Int), .int .i64 (m : Int)] w fun e w' => e = .returned (.int .i64 (lens (leapB y) m)) ∧ Below w.heap.size w w' := by
  have S := Lib.hid fun w => tleap y h1 h2 w
  generalize leapB y = lp at S ⊢
  rcases twelve m1 m2 with rfl | rfl | rfl | rfl | rfl | rfl | rfl | rfl | rfl | rfl | rfl | rfl
  case' inr.inl => cases lp
  all_goals
    go_enter Tryz.func113, Tryz.ntmps113
    go_wp2_with (first | (go_at_call 129; (with_reducible refine (S.out _).mono ?_); rintro e w' ⟨rfl, rfl⟩))
    go_ret
    exact ⟨rfl, by (repeat' (first | assumption | exact Below.refl _ _ | exact Below.size (by assumption) | (refine Below.setCell ?_ ?_ _) | (refine Below.alloc ?_ ?_ _) | (refine Below.drew ?_) | (refine below_drewN ?_ _) | (refine Below.trans ?_ (Below.mono ‹Below _ _ _› ?_)) | omega | (simp; done) | (simp; omega) | (simp at *; omega)))⟩
end Go.Proofs.YtigocjhmgmhocaaGreatDoor

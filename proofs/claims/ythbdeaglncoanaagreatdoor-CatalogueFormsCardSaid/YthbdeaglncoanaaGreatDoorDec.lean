/- The reference's decimal text of small numbers. -/
import Derived.Test.YthbdeaglncoanaaGreatDoorLeaf
import Derived.Test.YthbdeaglncoanaaGreatDoorGcd
namespace Go.Proofs.YthbdeaglncoanaaGreatDoor
open Go.RowKit
set_option linter.unusedVariables false
set_option linter.unusedSimpArgs false

/-- The text of one digit. -/
def dg (d : Nat) : ByteArray := Utf8.encode (((48 + d : Nat) : Int))
theorem dg_size (d : Nat) (hd : d < 10) : ((dg d).size : Int) ≤ 8388608 := by
  have : d = 0 ∨ d = 1 ∨ d = 2 ∨ d = 3 ∨ d = 4 ∨ d = 5 ∨ d = 6 ∨ d = 7 ∨ d = 8 ∨ d = 9 := by omega
  rcases this with rfl | rfl | rfl | rfl | rfl | rfl | rfl | rfl | rfl | rfl <;> decide
theorem rdec_one (d : Nat) (hd : d < 10) (w : World) : Calls Tryz.prog 54 #[.int .i64 (d : Int)] w fun e w' => e = .returned (.string (dg d)) ∧ w = w' := by
  have e1 : Int.tmod (d : Int) 10 = (d : Int) := (tmod_nat d 10).trans (by omega)
  have e1' : (d : Int) % 10 = (d : Int) := by omega
  obtain ⟨c, hc⟩ : ∃ c, c = 48 + d := ⟨_, rfl⟩
  have e2 : IntKind.i64.wrap (48 + (d : Int)) = (c : Int) := by rw [IntKind.wrap_i64]; omega
  have e3 : IntKind.i32.wrap (c : Int) = (c : Int) := by unfold IntKind.wrap; simp [IntKind.bits, IntKind.signed]; omega
  have t1 : decide ((d : Int) < 0) = false := by simp
  have t2 : decide ((10 : Int) ≤ (d : Int)) = false := decide_eq_false (by omega)
  unfold dg
  rw [← hc]
  clear hd hc
  go_enter Tryz.func54, Tryz.ntmps54
  go_wp2_with fail
  go_ret
  exact ⟨rfl, rfl⟩
end Go.Proofs.YthbdeaglncoanaaGreatDoor

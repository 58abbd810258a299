/- Whether a section is valid, by the package and by the reference. -/
import Derived.Test.YtfgakaielfekoaaGreatDoorTabTwo
import Derived.Test.YtfgakaielfekoaaGreatDoorName
namespace Go.Proofs.YtfgakaielfekoaaGreatDoor
open Go.RowKit
set_option linter.unusedVariables false
set_option linter.unusedSimpArgs false

def CurveOK (n : Nat) (X Y : Nat → Int) (h most : Int) : Prop := TabOK n X Y ∧ X 0 = 0 ∧ Y 0 = 0 ∧ X (n - 1) = h ∧ Y (n - 1) ≤ most
noncomputable def boolOf (p : Prop) : Bool := @decide p (Classical.propDecidable p)
theorem boolOf_true {p : Prop} (h : p) : boolOf p = true := by unfold boolOf; exact @decide_eq_true _ (Classical.propDecidable _) h
theorem boolOf_false {p : Prop} (h : ¬ p) : boolOf p = false := by unfold boolOf; exact @decide_eq_false _ (Classical.propDecidable _) h
theorem boolOf_eq {b : Bool} {p : Prop} (h : b = true ↔ p) : b = boolOf p := by
  by_cases hp : p
  · rw [boolOf_true hp, h.2 hp]
  · rw [boolOf_false hp]; cases b with
    | false => rfl
    | true => exact absurd (h.1 rfl) hp
theorem of_boolOf {p : Prop} (h : boolOf p = true) : p := Classical.byContradiction fun hn => by rw [boolOf_false hn] at h; cases h
end Go.Proofs.YtfgakaielfekoaaGreatDoor

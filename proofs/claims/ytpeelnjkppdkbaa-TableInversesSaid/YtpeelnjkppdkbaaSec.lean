/- Whether a section is valid, or large, by the package and by the reference. -/
import Derived.Test.YtpeelnjkppdkbaaCurve
namespace Go.Proofs.Ytpeelnjkppdkbaa
open Go.RowKit
set_option linter.unusedVariables false
set_option linter.unusedSimpArgs false

def SecOK (nm : List UInt8) (h p : Int) (na : Nat) (AX AY : Nat → Int) (nc : Nat) (CX CY : Nat → Int) : Prop :=
  nameB nm = true ∧ 1 ≤ h ∧ h ≤ 32768 ∧ 0 ≤ p ∧ p ≤ 1073741824 ∧ CurveOK na AX AY h 1073741824 ∧ CurveOK nc CX CY h 1099511627776
theorem iff_boolOf {b : Bool} {p : Prop} (h : b = boolOf p) : p ↔ b = true := by
  rw [h]; exact ⟨boolOf_true, of_boolOf⟩

end Go.Proofs.Ytpeelnjkppdkbaa

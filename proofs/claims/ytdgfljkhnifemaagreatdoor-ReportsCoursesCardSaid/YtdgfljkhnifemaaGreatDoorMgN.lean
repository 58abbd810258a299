/- Merged texts of these proofs: Num, Div, Wide. -/
import Derived.Lib.ItoaNum
import Derived.Laws.BitsAllLaws
import Derived.Test.YtdgfljkhnifemaaGreatDoorLeaf
import Derived.Test.YtdgfljkhnifemaaGreatDoorShelf
import Derived.Deep.QuietTactic
import Derived.BigQuiet
import Derived.IntWalk
import Derived.Deep.CutBlock
import Derived.Deep.CutRange
import Derived.Test.YtdgfljkhnifemaaGreatDoorBase
import Derived.Laws.Rows
import Derived.Laws.NewBlocks
import Derived.Shelf.Spec.BitsCarry
namespace Go.Proofs.YtdgfljkhnifemaaGreatDoor.Num

/-- A divisor and a dividend that are moved alike. -/
theorem shifted {a y k : Nat} (hk : 0 < k) : a * k / (y * k) = a / y ∧ a * k % (y * k) = a % y * k := by
  exact ⟨Nat.mul_div_mul_right _ _ hk, Nat.mul_mod_mul_right _ _ _⟩

theorem halves (Y : Nat) (h : Y < 18446744073709551616) : Y / 4294967296 < 4294967296 ∧ Y % 4294967296 < 4294967296 ∧ Y / 4294967296 * 4294967296 + Y % 4294967296 = Y := by omega
/-- The root of a number, rounded down. -/
def isq : Nat → Nat
  | 0 => 0
  | n + 1 => if (isq n + 1) * (isq n + 1) ≤ n + 1 then isq n + 1 else isq n
end Go.Proofs.YtdgfljkhnifemaaGreatDoor.Num

namespace Go.Proofs.YtdgfljkhnifemaaGreatDoor
open Go.RowKit
set_option linter.unusedVariables false
set_option linter.unusedSimpArgs false

end Go.Proofs.YtdgfljkhnifemaaGreatDoor

namespace Go.Proofs.YtdgfljkhnifemaaGreatDoor
open Go.RowKit
set_option linter.unusedVariables false
set_option linter.unusedSimpArgs false

end Go.Proofs.YtdgfljkhnifemaaGreatDoor

/- The least number whose square is at least a sum of two squares; and the equality of two slices of knots. -/
import Derived.Test.YtpeelnjkppdkbaaCat
import Derived.Test.YtpeelnjkppdkbaaTab
namespace Go.Proofs.Ytpeelnjkppdkbaa
open Go.RowKit
set_option linter.unusedVariables false
set_option linter.unusedSimpArgs false

/-- The root, rounded up. -/
def csq (n : Nat) : Nat := if Num.isq n * Num.isq n < n then Num.isq n + 1 else Num.isq n
end Go.Proofs.Ytpeelnjkppdkbaa

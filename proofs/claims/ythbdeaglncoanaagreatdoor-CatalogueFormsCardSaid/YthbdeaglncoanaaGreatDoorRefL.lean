/- The reference's equality of sections, where they are equal. -/
import Derived.Test.YthbdeaglncoanaaGreatDoorCircle
import Derived.Test.YthbdeaglncoanaaGreatDoorSec
namespace Go.Proofs.YthbdeaglncoanaaGreatDoor
open Go.RowKit
set_option linter.unusedVariables false
set_option linter.unusedSimpArgs false

end Go.Proofs.YthbdeaglncoanaaGreatDoor

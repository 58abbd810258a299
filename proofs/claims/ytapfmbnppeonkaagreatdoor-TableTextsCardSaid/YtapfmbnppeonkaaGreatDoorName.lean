/- Names: how many bytes of a word a string begins with, and whether it is a name, by the package and by the reference. -/
import Derived.Test.YtapfmbnppeonkaaGreatDoorLeaf
import Derived.Lib.Strings
import Derived.LoopTactic
namespace Go.Proofs.YtapfmbnppeonkaaGreatDoor
open Go.RowKit
set_option linter.unusedVariables false
set_option linter.unusedSimpArgs false

end Go.Proofs.YtapfmbnppeonkaaGreatDoor

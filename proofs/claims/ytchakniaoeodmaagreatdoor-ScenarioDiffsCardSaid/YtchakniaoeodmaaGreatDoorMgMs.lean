/- What the other claim does not hold. -/
import Derived.Test.YtchakniaoeodmaaGreatDoorMgAwx
import Derived.Test.YtchakniaoeodmaaGreatDoorMgAl
import Derived.Test.YtchakniaoeodmaaGreatDoorMgS
import Derived.Test.YtchakniaoeodmaaGreatDoorMgOx
import Derived.Test.YtchakniaoeodmaaGreatDoorNetW
import Derived.Test.YtchakniaoeodmaaGreatDoorNetV
import Derived.Test.YtchakniaoeodmaaGreatDoorMgM
namespace Go.Proofs.YtchakniaoeodmaaGreatDoor
open Go.RowKit
set_option linter.unusedVariables false
set_option linter.unusedSimpArgs false
end Go.Proofs.YtchakniaoeodmaaGreatDoor

/- The edges of a network, on both sides. -/
import Derived.Test.YtchakniaoeodmaaGreatDoorMgC
import Derived.Test.YtchakniaoeodmaaGreatDoorMgH
import Derived.Test.YtchakniaoeodmaaGreatDoorMgF
namespace Go.Proofs.YtchakniaoeodmaaGreatDoor
open Go.RowKit
set_option linter.unusedVariables false
set_option linter.unusedSimpArgs false
def edl (m:Nat) (X Y:Nat→Int):List (Int×Int):=(List.range m).map fun k=>(X k,Y k)
theorem zD6 (m:Nat) (X Y:Nat→Int):(edl m X Y).length=m:=by simp [edl]
theorem zV3 {m k:Nat} {X Y:Nat→Int} (h:k<m):kX (edl m X Y) k=X k∧kY (edl m X Y) k=Y k:=by
 unfold kX kY edl
 simp [List.getD,h]
end Go.Proofs.YtchakniaoeodmaaGreatDoor

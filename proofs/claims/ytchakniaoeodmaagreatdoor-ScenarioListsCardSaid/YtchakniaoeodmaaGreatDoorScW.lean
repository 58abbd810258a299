/- Undo of package scenario, where Apply accepts. Written by gen_scv.py. -/
import Derived.Test.YtchakniaoeodmaaGreatDoorMgUV
namespace Go.Proofs.YtchakniaoeodmaaGreatDoor
open Go.RowKit
set_option linter.unusedVariables false
set_option linter.unusedSimpArgs false
theorem ndx_len' {NM:List Ndm} {D:Nds} {n:Nat} (h:ndx NM=recN D n):NM.length=n:=by have:=congrArg List.length h;rw [zA3] at this;simpa [ndx] using this
theorem lkx_len' {LM:List Lkm} {D:Lks} {n:Nat} (h:lkx LM=recL D n):LM.length=n:=by have:=congrArg List.length h;rw [zA4] at this;simpa [lkx] using this
end Go.Proofs.YtchakniaoeodmaaGreatDoor

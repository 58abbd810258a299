/- What the other claim does not hold. -/
import Derived.Test.YtchakniaoeodmaaGreatDoorMgAw
import Derived.Test.YtchakniaoeodmaaGreatDoorMgAl
import Derived.Test.YtchakniaoeodmaaGreatDoorMgAlx
import Derived.Test.YtchakniaoeodmaaGreatDoorMgS
import Derived.Test.YtchakniaoeodmaaGreatDoorMgO
import Derived.Test.YtchakniaoeodmaaGreatDoorNetW
import Derived.Test.YtchakniaoeodmaaGreatDoorNetV
import Derived.Test.YtchakniaoeodmaaGreatDoorMgM
namespace Go.Proofs.YtchakniaoeodmaaGreatDoor
open Go.RowKit
set_option linter.unusedVariables false
set_option linter.unusedSimpArgs false
section
open Go.RowKit Go.WideShapes Go.ChangeShapes Go.ChangeAt Go.Deep
variable {H:Type} {enc:TypeId×Value→H} {W:World}
set_option maxRecDepth 100000 in
theorem open_change {b0:Nat} {v:Value} {d:DataW H} {p:List MemPlace} (hv:Value.okWide Tryz.prog W .any b0 34 v) (h:DataW.Trod enc Tryz.prog W 0 (fun _=>true) true 34 v d p):
 ∃(kd:Int) (D:Nds) (K:Lks),v= .agg (chA kd D 0 K 0)∧TabIn W (D.SA 0) (D.SN 0) (D.SX 0) (D.SY 0)∧TabIn W (K.CA 0) (K.CN 0) (K.CX 0) (K.CY 0):=by
 obtain ⟨cs,rfl,hsz⟩:=okWide_struct Tryz.underlying34 hv
 obtain ⟨fuel,hf⟩:=h
 obtain ⟨kd,D,K,e,h1,h2⟩:=zQ0 hf
 refine ⟨kd,D,K,?_,h1,h2⟩
 obtain ⟨l⟩:=cs
 have e':l=chv kd D 0 K 0:=e
 rw [e']
 rfl
end
set_option maxRecDepth 100000 in
set_option maxHeartbeats 8000000 in
theorem sc_right6 (i j:Nat) (C:Nds) (E:Lks) (w:World) (V:Bool) (hsz:((E.Nm j)).size≤maxLen) (hV:zD1 ((E.Nm j)).data.toList=V):
 Calls Tryz.prog 51 #[.agg (chA 6 C i E j)] w fun e w'=>e= .returned (.bool V)∧Below w.heap.size w w':=by
 have HX:Hid (Blk (w.alloc (Obj.cells (chA 6 C i E j) 34)) w.heap.size 34 (chA 6 C i E j)):=Blk.new _ _ _
 have HAL:Hid (Below w.heap.size w (w.alloc (Obj.cells (chA 6 C i E j) 34))):=(bR _ w).alloc (nl _) _
 have SNm:Hid (∀w',Calls Tryz.prog 53 #[.agg (chA 6 C i E j)] w' fun e w''=>e= .returned (.string (E.Nm j))∧Below w'.heap.size w' w''):=fun w'=>by
  have h:=sc_name 6 i j C E w'
  simpa using h
 have SN0:=zQ9 (E.Nm j) hsz
 rw [hV] at SN0
 have SN:=LH SN0
 clear hV SN0 hsz
 go_enter Tryz.func51,Tryz.ntmps51
 go_upto_region 1 with fail
 generalize w.alloc (Obj.cells (chA 6 C i E j) 34)=W at HX HAL⊢
 have e0:=HX.out.cell 0
 simp only [chA,List.getElem?_toArray,List.getElem?_cons_zero,List.getElem?_cons_succ] at e0
 go_wp2_with (first
  |(refine wpList_load_row rfl 34 (.tmp 1) rfl _ rfl _ _ (0,0) _ HX.out Tryz.underlying34 rfl (by kernel_rfl) ?_)
  |(go_at_call 53
    with_reducible refine (SNm.out _).mono ?_
    rintro e w4 ⟨rfl,hb4⟩
    have HB4:=LH (zA1 HAL.out hb4)
    clear hb4)
  |(go_at_call 98;(with_reducible refine (SN.out _).mono ?_);rintro e w' ⟨rfl,rfl⟩))
 go_ret
 exact ⟨rfl,HB4.out⟩
end Go.Proofs.YtchakniaoeodmaaGreatDoor

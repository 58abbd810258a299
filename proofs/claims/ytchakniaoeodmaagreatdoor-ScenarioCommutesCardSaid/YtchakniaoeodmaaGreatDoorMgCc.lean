/- Merged texts of these proofs: OpCm,LCm. -/
import Derived.Test.YtchakniaoeodmaaGreatDoorMgMs
import Derived.Test.YtchakniaoeodmaaGreatDoorRows
import Derived.Test.YtchakniaoeodmaaGreatDoorStay
import Derived.Test.YtchakniaoeodmaaGreatDoorMgQ
import Derived.LaidMore
import Derived.Lay
import Derived.Stop.Joined
import Derived.Stop.LaidErr
import Derived.Lib.LaidTab
import Derived.Test.YtchakniaoeodmaaGreatDoorMgP
import Derived.Test.YtchakniaoeodmaaGreatDoorMgAw
import Derived.Test.YtchakniaoeodmaaGreatDoorMgCa
import Derived.Test.YtchakniaoeodmaaGreatDoorMgCb
import Derived.Test.YtchakniaoeodmaaGreatDoorMgAl
import Derived.Test.YtchakniaoeodmaaGreatDoorMgS
namespace Go.Proofs.YtchakniaoeodmaaGreatDoor.scenarioCommutesRow
open Go.Proofs.YtchakniaoeodmaaGreatDoor Go.RowKit Go.WideShapes Go.ChangeShapes Go.ChangeAt Go.Deep Go.Joins
set_option linter.unusedVariables false
set_option linter.unusedSimpArgs false
theorem door_met (os:Os) (args:Array Value):laidMetH Tryz.prog Rows.scenarioCommutesRow.laid ((World.laidAll Tryz.prog os Rows.scenarioCommutesRow.laid).forCall (fun _ _=>0) ⟨#[],args,[]⟩).memory:=by
 rw [MakeChecks.laidMetH_plain _ _ _ (by kernel_rfl)]
 exact laidMet_laidAll _ (by kernel_rfl) (by kernel_rfl)
end Go.Proofs.YtchakniaoeodmaaGreatDoor.scenarioCommutesRow
namespace Go.Proofs.YtchakniaoeodmaaGreatDoor
open Go.RowKit
set_option maxRecDepth 100000 in
set_option maxHeartbeats 32000000 in
theorem l_commutes (NA LA:Option Addr) (n nc0 m lc0:Nat) (ka kb:Int) (D C C2:Nds) (K E E2:Lks) (w:World) (hD:NdIn w NA n D) (hK:LkIn w LA m K) (hTx:TabIn w (C.SA 0) (C.SN 0) (C.SX 0) (C.SY 0)) (hTl:TabIn w (E.CA 0) (E.CN 0) (E.CX 0) (E.CY 0)) (hTx':TabIn w (C2.SA 0) (C2.SN 0) (C2.SX 0) (C2.SY 0)) (hTl':TabIn w (E2.CA 0) (E2.CN 0) (E2.CX 0) (E2.CY 0)):
 Calls Tryz.prog 8 #[.agg #[.slice NA n nc0,.slice LA m lc0],.agg (chA ka C 0 E 0),.agg (chA kb C2 0 E2 0)] w fun e w'=>e= .returned (.bool true)∧Below w.heap.size w w':=by
 have hal:Below w.heap.size w (((w.alloc (Obj.cells #[.slice NA n nc0,.slice LA m lc0] 52)).alloc (Obj.cells (chA ka C 0 E 0) 34)).alloc (Obj.cells (chA kb C2 0 E2 0) 34)):=(((bR _ w).alloc (nl _) _).alloc (by simp) _).alloc (by simp<;> omega) _
 have HB:=LH hal
 have HNX:Hid (Blk (((w.alloc (Obj.cells #[.slice NA n nc0,.slice LA m lc0] 52)).alloc (Obj.cells (chA ka C 0 E 0) 34)).alloc (Obj.cells (chA kb C2 0 E2 0) 34)) w.heap.size 52 #[.slice NA n nc0,.slice LA m lc0]):=((Blk.new _ _ _).alloc _).alloc _
 have Ub:Hid (Blk (((w.alloc (Obj.cells #[.slice NA n nc0,.slice LA m lc0] 52)).alloc (Obj.cells (chA ka C 0 E 0) 34)).alloc (Obj.cells (chA kb C2 0 E2 0) 34)) (w.heap.size+1) 34 (chA ka C 0 E 0)):=by have h:=(Blk.new (w.alloc (Obj.cells #[.slice NA n nc0,.slice LA m lc0] 52)) 34 (chA ka C 0 E 0)).alloc (Obj.cells (chA kb C2 0 E2 0) 34);rw [zB0] at h;exact h
 have Vb:Hid (Blk (((w.alloc (Obj.cells #[.slice NA n nc0,.slice LA m lc0] 52)).alloc (Obj.cells (chA ka C 0 E 0) 34)).alloc (Obj.cells (chA kb C2 0 E2 0) 34)) (w.heap.size+2) 34 (chA kb C2 0 E2 0)):=by have h:=Blk.new ((w.alloc (Obj.cells #[.slice NA n nc0,.slice LA m lc0] 52)).alloc (Obj.cells (chA ka C 0 E 0) 34)) 34 (chA kb C2 0 E2 0);rw [zB0,zB0] at h;exact h
 have Un:=LH (And.intro (hTx.below (nl _) hal) (hTl.below (nl _) hal))
 have Vn:=LH (And.intro (hTx'.below (nl _) hal) (hTl'.below (nl _) hal))
 have HD:=LH hD
 have HK:=LH hK
 have HU:=LH (And.intro hTx hTl)
 have HV':=LH (And.intro hTx' hTl')
 have SH:Hid (∀w',Below w.heap.size w w'→Calls Tryz.prog 24 #[.agg #[.slice NA n nc0,.slice LA m lc0]] w' fun e w''=>e= .returned (.bool (boolOf (hvyP D n K m)))∧Below w'.heap.size w' w''):=fun w' hb=>sc_heavy NA LA n nc0 m lc0 D K w' (zB3 HD.out hb) (zB1 HK.out hb)
 have SLA:Hid (∀w',Calls Tryz.prog 12 #[.agg (chA ka C 0 E 0)] w' fun e w''=>e= .returned (.bool (boolOf (lgnP C 0∨lgkP E 0)))∧Below w'.heap.size w' w''):=fun w'=>sc_long ka 0 0 C E w'
 have SLB:Hid (∀w',Calls Tryz.prog 12 #[.agg (chA kb C2 0 E2 0)] w' fun e w''=>e= .returned (.bool (boolOf (lgnP C2 0∨lgkP E2 0)))∧Below w'.heap.size w' w''):=fun w'=>sc_long kb 0 0 C2 E2 w'
 clear hD hK hTx hTl hTx' hTl' hal
 go_enter Tryz.func8,Tryz.ntmps8
 go_upto_region 1 with fail
 generalize ((w.alloc (Obj.cells #[.slice NA n nc0,.slice LA m lc0] 52)).alloc (Obj.cells (chA ka C 0 E 0) 34)).alloc (Obj.cells (chA kb C2 0 E2 0) 34)=w2 at HB HNX Ub Vb Un Vn⊢
 obtain ⟨d0,d1⟩:=blk2 HNX.out
 by_cases hh:hvyP D n K m
 ·rw [zA2 hh] at SH
  clear hh
  go_wp2_with (first
  |(go_at_call 10
    with_reducible refine (zV8 _).mono ?_
    rintro e w4 ⟨rfl,hb4⟩
    have HNX:=LH (HNX.out.call hb4)
    have HB:=LH (zA1 HB.out hb4)
    have Un:=LH (And.intro (Un.out.1.below (nl _) hb4) (Un.out.2.below (nl _) hb4))
    have Ub:=LH (Ub.out.call hb4)
    have Vn:=LH (And.intro (Vn.out.1.below (nl _) hb4) (Vn.out.2.below (nl _) hb4))
    have Vb:=LH (Vb.out.call hb4)
    clear d0 d1 
    obtain ⟨d0,d1⟩:=blk2 HNX.out
    clear hb4)
  |(go_at_call 24
    with_reducible refine (SH.out _ HB.out).mono ?_
    rintro e w4 ⟨rfl,hb4⟩
    have HNX:=LH (HNX.out.call hb4)
    have HB:=LH (zA1 HB.out hb4)
    have Un:=LH (And.intro (Un.out.1.below (nl _) hb4) (Un.out.2.below (nl _) hb4))
    have Ub:=LH (Ub.out.call hb4)
    have Vn:=LH (And.intro (Vn.out.1.below (nl _) hb4) (Vn.out.2.below (nl _) hb4))
    have Vb:=LH (Vb.out.call hb4)
    clear d0 d1 
    obtain ⟨d0,d1⟩:=blk2 HNX.out
    clear hb4))
  go_ret
  exact ⟨rfl,HB.out⟩
 rw [zA0 hh] at SH
 by_cases hla:lgnP C 0∨lgkP E 0
 ·rw [zA2 hla] at SLA
  clear hh hla
  go_wp2_with (first
  |(go_at_call 10
    with_reducible refine (zV8 _).mono ?_
    rintro e w4 ⟨rfl,hb4⟩
    have HNX:=LH (HNX.out.call hb4)
    have HB:=LH (zA1 HB.out hb4)
    have Un:=LH (And.intro (Un.out.1.below (nl _) hb4) (Un.out.2.below (nl _) hb4))
    have Ub:=LH (Ub.out.call hb4)
    have Vn:=LH (And.intro (Vn.out.1.below (nl _) hb4) (Vn.out.2.below (nl _) hb4))
    have Vb:=LH (Vb.out.call hb4)
    clear d0 d1 
    obtain ⟨d0,d1⟩:=blk2 HNX.out
    clear hb4)
  |(go_at_call 24
    with_reducible refine (SH.out _ HB.out).mono ?_
    rintro e w4 ⟨rfl,hb4⟩
    have HNX:=LH (HNX.out.call hb4)
    have HB:=LH (zA1 HB.out hb4)
    have Un:=LH (And.intro (Un.out.1.below (nl _) hb4) (Un.out.2.below (nl _) hb4))
    have Ub:=LH (Ub.out.call hb4)
    have Vn:=LH (And.intro (Vn.out.1.below (nl _) hb4) (Vn.out.2.below (nl _) hb4))
    have Vb:=LH (Vb.out.call hb4)
    clear d0 d1 
    obtain ⟨d0,d1⟩:=blk2 HNX.out
    clear hb4)
  |(refine zY0 rfl 34 (.tmp 4) rfl (w.heap.size+1) rfl _ _ Ub.out _ Tryz.underlying34 rfl (by kernel_rfl) ?_)
  |(go_at_call 12
    with_reducible refine (SLA.out _).mono ?_
    rintro e w4 ⟨rfl,hb4⟩
    have HNX:=LH (HNX.out.call hb4)
    have HB:=LH (zA1 HB.out hb4)
    have Un:=LH (And.intro (Un.out.1.below (nl _) hb4) (Un.out.2.below (nl _) hb4))
    have Ub:=LH (Ub.out.call hb4)
    have Vn:=LH (And.intro (Vn.out.1.below (nl _) hb4) (Vn.out.2.below (nl _) hb4))
    have Vb:=LH (Vb.out.call hb4)
    clear d0 d1 
    obtain ⟨d0,d1⟩:=blk2 HNX.out
    clear hb4))
  go_ret
  exact ⟨rfl,HB.out⟩
 rw [zA0 hla] at SLA
 by_cases hlb:lgnP C2 0∨lgkP E2 0
 ·rw [zA2 hlb] at SLB
  clear hh hla hlb
  go_wp2_with (first
  |(go_at_call 10
    with_reducible refine (zV8 _).mono ?_
    rintro e w4 ⟨rfl,hb4⟩
    have HNX:=LH (HNX.out.call hb4)
    have HB:=LH (zA1 HB.out hb4)
    have Un:=LH (And.intro (Un.out.1.below (nl _) hb4) (Un.out.2.below (nl _) hb4))
    have Ub:=LH (Ub.out.call hb4)
    have Vn:=LH (And.intro (Vn.out.1.below (nl _) hb4) (Vn.out.2.below (nl _) hb4))
    have Vb:=LH (Vb.out.call hb4)
    clear d0 d1 
    obtain ⟨d0,d1⟩:=blk2 HNX.out
    clear hb4)
  |(go_at_call 24
    with_reducible refine (SH.out _ HB.out).mono ?_
    rintro e w4 ⟨rfl,hb4⟩
    have HNX:=LH (HNX.out.call hb4)
    have HB:=LH (zA1 HB.out hb4)
    have Un:=LH (And.intro (Un.out.1.below (nl _) hb4) (Un.out.2.below (nl _) hb4))
    have Ub:=LH (Ub.out.call hb4)
    have Vn:=LH (And.intro (Vn.out.1.below (nl _) hb4) (Vn.out.2.below (nl _) hb4))
    have Vb:=LH (Vb.out.call hb4)
    clear d0 d1 
    obtain ⟨d0,d1⟩:=blk2 HNX.out
    clear hb4)
  |(refine zY0 rfl 34 (.tmp 4) rfl (w.heap.size+1) rfl _ _ Ub.out _ Tryz.underlying34 rfl (by kernel_rfl) ?_)
  |(refine zY0 rfl 34 (.tmp 5) rfl (w.heap.size+2) rfl _ _ Vb.out _ Tryz.underlying34 rfl (by kernel_rfl) ?_)
  |(go_at_call 12
    with_reducible refine (SLA.out _).mono ?_
    rintro e w4 ⟨rfl,hb4⟩
    have HNX:=LH (HNX.out.call hb4)
    have HB:=LH (zA1 HB.out hb4)
    have Un:=LH (And.intro (Un.out.1.below (nl _) hb4) (Un.out.2.below (nl _) hb4))
    have Ub:=LH (Ub.out.call hb4)
    have Vn:=LH (And.intro (Vn.out.1.below (nl _) hb4) (Vn.out.2.below (nl _) hb4))
    have Vb:=LH (Vb.out.call hb4)
    clear d0 d1 
    obtain ⟨d0,d1⟩:=blk2 HNX.out
    clear hb4)
  |(go_at_call 12
    with_reducible refine (SLB.out _).mono ?_
    rintro e w4 ⟨rfl,hb4⟩
    have HNX:=LH (HNX.out.call hb4)
    have HB:=LH (zA1 HB.out hb4)
    have Un:=LH (And.intro (Un.out.1.below (nl _) hb4) (Un.out.2.below (nl _) hb4))
    have Ub:=LH (Ub.out.call hb4)
    have Vn:=LH (And.intro (Vn.out.1.below (nl _) hb4) (Vn.out.2.below (nl _) hb4))
    have Vb:=LH (Vb.out.call hb4)
    clear d0 d1 
    obtain ⟨d0,d1⟩:=blk2 HNX.out
    clear hb4))
  go_ret
  exact ⟨rfl,HB.out⟩
 rw [zA0 hlb] at SLB
 have hzz:=hvy_zz hh
 have SV:Hid (∀w',Below w.heap.size w w'→Calls Tryz.prog 28 #[.agg #[.slice NA n nc0,.slice LA m lc0]] w' fun e w''=>e= .returned (.bool (boolOf (netP D n K m)))∧Below w'.heap.size w' w''):=fun w' hb=>zD2 NA LA n nc0 m lc0 D K hzz.sz w' (zB3 HD.out hb) (zB1 HK.out hb)
 by_cases hp:netP D n K m
 case neg=>
  rw [zA0 hp] at SV
  clear hh hla hlb hp hzz
  go_wp2_with (first
  |(go_at_call 10
    with_reducible refine (zV8 _).mono ?_
    rintro e w4 ⟨rfl,hb4⟩
    have HNX:=LH (HNX.out.call hb4)
    have HB:=LH (zA1 HB.out hb4)
    have Un:=LH (And.intro (Un.out.1.below (nl _) hb4) (Un.out.2.below (nl _) hb4))
    have Ub:=LH (Ub.out.call hb4)
    have Vn:=LH (And.intro (Vn.out.1.below (nl _) hb4) (Vn.out.2.below (nl _) hb4))
    have Vb:=LH (Vb.out.call hb4)
    clear d0 d1 
    obtain ⟨d0,d1⟩:=blk2 HNX.out
    clear hb4)
  |(go_at_call 24
    with_reducible refine (SH.out _ HB.out).mono ?_
    rintro e w4 ⟨rfl,hb4⟩
    have HNX:=LH (HNX.out.call hb4)
    have HB:=LH (zA1 HB.out hb4)
    have Un:=LH (And.intro (Un.out.1.below (nl _) hb4) (Un.out.2.below (nl _) hb4))
    have Ub:=LH (Ub.out.call hb4)
    have Vn:=LH (And.intro (Vn.out.1.below (nl _) hb4) (Vn.out.2.below (nl _) hb4))
    have Vb:=LH (Vb.out.call hb4)
    clear d0 d1 
    obtain ⟨d0,d1⟩:=blk2 HNX.out
    clear hb4)
  |(refine zY0 rfl 34 (.tmp 4) rfl (w.heap.size+1) rfl _ _ Ub.out _ Tryz.underlying34 rfl (by kernel_rfl) ?_)
  |(refine zY0 rfl 34 (.tmp 5) rfl (w.heap.size+2) rfl _ _ Vb.out _ Tryz.underlying34 rfl (by kernel_rfl) ?_)
  |(go_at_call 12
    with_reducible refine (SLA.out _).mono ?_
    rintro e w4 ⟨rfl,hb4⟩
    have HNX:=LH (HNX.out.call hb4)
    have HB:=LH (zA1 HB.out hb4)
    have Un:=LH (And.intro (Un.out.1.below (nl _) hb4) (Un.out.2.below (nl _) hb4))
    have Ub:=LH (Ub.out.call hb4)
    have Vn:=LH (And.intro (Vn.out.1.below (nl _) hb4) (Vn.out.2.below (nl _) hb4))
    have Vb:=LH (Vb.out.call hb4)
    clear d0 d1 
    obtain ⟨d0,d1⟩:=blk2 HNX.out
    clear hb4)
  |(go_at_call 12
    with_reducible refine (SLB.out _).mono ?_
    rintro e w4 ⟨rfl,hb4⟩
    have HNX:=LH (HNX.out.call hb4)
    have HB:=LH (zA1 HB.out hb4)
    have Un:=LH (And.intro (Un.out.1.below (nl _) hb4) (Un.out.2.below (nl _) hb4))
    have Ub:=LH (Ub.out.call hb4)
    have Vn:=LH (And.intro (Vn.out.1.below (nl _) hb4) (Vn.out.2.below (nl _) hb4))
    have Vb:=LH (Vb.out.call hb4)
    clear d0 d1 
    obtain ⟨d0,d1⟩:=blk2 HNX.out
    clear hb4)
  |(go_at_call 28
    with_reducible refine (SV.out _ HB.out).mono ?_
    rintro e w4 ⟨rfl,hb4⟩
    have HNX:=LH (HNX.out.call hb4)
    have HB:=LH (zA1 HB.out hb4)
    have Un:=LH (And.intro (Un.out.1.below (nl _) hb4) (Un.out.2.below (nl _) hb4))
    have Ub:=LH (Ub.out.call hb4)
    have Vn:=LH (And.intro (Vn.out.1.below (nl _) hb4) (Vn.out.2.below (nl _) hb4))
    have Vb:=LH (Vb.out.call hb4)
    clear d0 d1 
    obtain ⟨d0,d1⟩:=blk2 HNX.out
    clear hb4))
  go_ret
  exact ⟨rfl,HB.out⟩
 rw [zA2 hp] at SV
 have hv:=VS.of hp
 have HVS:=LH hv
 have hza:ZN (zA7 C 0):=ln_z fun h=>hla (.inl h)
 have hzb:ZL (zA5 E 0):=ll_z fun h=>hla (.inr h)
 have hzc:ZN (zA7 C2 0):=ln_z fun h=>hlb (.inl h)
 have hzd:ZL (zA5 E2 0):=ll_z fun h=>hlb (.inr h)
 have HZ:=LH (And.intro (And.intro hza hzb) (And.intro hzc hzd))
 obtain ⟨V,hV⟩:∃V,boolOf (indP (chrR ka C 0 E 0) (chrR kb C2 0 E2 0))=V:=⟨_,rfl⟩
 have hV2:boolOf (indP (chrR kb C2 0 E2 0) (chrR ka C 0 E 0))=V:=by rw [←hV];exact boolOf_cong ⟨fun h=>h.symm,fun h=>h.symm⟩
 have SI1:Hid (∀w',Below w.heap.size w w'→Calls Tryz.prog 17 #[.agg (chA ka C 0 E 0),.agg (chA kb C2 0 E2 0)] w' fun e w''=>e= .returned (.bool V)∧Below w'.heap.size w' w''):=fun w' hb=>by
  have h:=sc_Independent ka kb 0 0 0 0 C C2 E E2 w' HZ.out.1.1 HZ.out.1.2 HZ.out.2.1 HZ.out.2.2 (HU.out.1.below (nl _) hb) (HU.out.2.below (nl _) hb) (HV'.out.1.below (nl _) hb) (HV'.out.2.below (nl _) hb)
  rw [hV] at h
  exact h
 have SI2:Hid (∀w',Below w.heap.size w w'→Calls Tryz.prog 17 #[.agg (chA kb C2 0 E2 0),.agg (chA ka C 0 E 0)] w' fun e w''=>e= .returned (.bool V)∧Below w'.heap.size w' w''):=fun w' hb=>by
  have h:=sc_Independent kb ka 0 0 0 0 C2 C E2 E w' HZ.out.2.1 HZ.out.2.2 HZ.out.1.1 HZ.out.1.2 (HV'.out.1.below (nl _) hb) (HV'.out.2.below (nl _) hb) (HU.out.1.below (nl _) hb) (HU.out.2.below (nl _) hb)
  rw [hV2] at h
  exact h
 have HVV:=LH hV
 have tb:(V !=V)=false:=by simp
 clear hh hla hlb hp hzz hv hza hzb hzc hzd hV hV2
 go_upto_region 5 with (first
  |(go_at_call 10
    with_reducible refine (zV8 _).mono ?_
    rintro e w4 ⟨rfl,hb4⟩
    have HNX:=LH (HNX.out.call hb4)
    have HB:=LH (zA1 HB.out hb4)
    have Un:=LH (And.intro (Un.out.1.below (nl _) hb4) (Un.out.2.below (nl _) hb4))
    have Ub:=LH (Ub.out.call hb4)
    have Vn:=LH (And.intro (Vn.out.1.below (nl _) hb4) (Vn.out.2.below (nl _) hb4))
    have Vb:=LH (Vb.out.call hb4)
    clear d0 d1 
    obtain ⟨d0,d1⟩:=blk2 HNX.out
    clear hb4)
  |(go_at_call 24
    with_reducible refine (SH.out _ HB.out).mono ?_
    rintro e w4 ⟨rfl,hb4⟩
    have HNX:=LH (HNX.out.call hb4)
    have HB:=LH (zA1 HB.out hb4)
    have Un:=LH (And.intro (Un.out.1.below (nl _) hb4) (Un.out.2.below (nl _) hb4))
    have Ub:=LH (Ub.out.call hb4)
    have Vn:=LH (And.intro (Vn.out.1.below (nl _) hb4) (Vn.out.2.below (nl _) hb4))
    have Vb:=LH (Vb.out.call hb4)
    clear d0 d1 
    obtain ⟨d0,d1⟩:=blk2 HNX.out
    clear hb4)
  |(refine zY0 rfl 34 (.tmp 4) rfl (w.heap.size+1) rfl _ _ Ub.out _ Tryz.underlying34 rfl (by kernel_rfl) ?_)
  |(refine zY0 rfl 34 (.tmp 5) rfl (w.heap.size+2) rfl _ _ Vb.out _ Tryz.underlying34 rfl (by kernel_rfl) ?_)
  |(go_at_call 12
    with_reducible refine (SLA.out _).mono ?_
    rintro e w4 ⟨rfl,hb4⟩
    have HNX:=LH (HNX.out.call hb4)
    have HB:=LH (zA1 HB.out hb4)
    have Un:=LH (And.intro (Un.out.1.below (nl _) hb4) (Un.out.2.below (nl _) hb4))
    have Ub:=LH (Ub.out.call hb4)
    have Vn:=LH (And.intro (Vn.out.1.below (nl _) hb4) (Vn.out.2.below (nl _) hb4))
    have Vb:=LH (Vb.out.call hb4)
    clear d0 d1 
    obtain ⟨d0,d1⟩:=blk2 HNX.out
    clear hb4)
  |(go_at_call 12
    with_reducible refine (SLB.out _).mono ?_
    rintro e w4 ⟨rfl,hb4⟩
    have HNX:=LH (HNX.out.call hb4)
    have HB:=LH (zA1 HB.out hb4)
    have Un:=LH (And.intro (Un.out.1.below (nl _) hb4) (Un.out.2.below (nl _) hb4))
    have Ub:=LH (Ub.out.call hb4)
    have Vn:=LH (And.intro (Vn.out.1.below (nl _) hb4) (Vn.out.2.below (nl _) hb4))
    have Vb:=LH (Vb.out.call hb4)
    clear d0 d1 
    obtain ⟨d0,d1⟩:=blk2 HNX.out
    clear hb4)
  |(go_at_call 28
    with_reducible refine (SV.out _ HB.out).mono ?_
    rintro e w4 ⟨rfl,hb4⟩
    have HNX:=LH (HNX.out.call hb4)
    have HB:=LH (zA1 HB.out hb4)
    have Un:=LH (And.intro (Un.out.1.below (nl _) hb4) (Un.out.2.below (nl _) hb4))
    have Ub:=LH (Ub.out.call hb4)
    have Vn:=LH (And.intro (Vn.out.1.below (nl _) hb4) (Vn.out.2.below (nl _) hb4))
    have Vb:=LH (Vb.out.call hb4)
    clear d0 d1 
    obtain ⟨d0,d1⟩:=blk2 HNX.out
    clear hb4))
 clear SH SLA SLB SV
 go_upto_region 8 with (first
  |(refine zY0 rfl 34 (.tmp 4) rfl (w.heap.size+1) rfl _ _ Ub.out _ Tryz.underlying34 rfl (by kernel_rfl) ?_)
  |(refine zY0 rfl 34 (.tmp 5) rfl (w.heap.size+2) rfl _ _ Vb.out _ Tryz.underlying34 rfl (by kernel_rfl) ?_)
  |(go_at_call 17
    with_reducible refine (SI1.out _ HB.out).mono ?_
    rintro e w4 ⟨rfl,hb4⟩
    have HNX:=LH (HNX.out.call hb4)
    have HB:=LH (zA1 HB.out hb4)
    have Un:=LH (And.intro (Un.out.1.below (nl _) hb4) (Un.out.2.below (nl _) hb4))
    have Ub:=LH (Ub.out.call hb4)
    have Vn:=LH (And.intro (Vn.out.1.below (nl _) hb4) (Vn.out.2.below (nl _) hb4))
    have Vb:=LH (Vb.out.call hb4)
    clear d0 d1 
    obtain ⟨d0,d1⟩:=blk2 HNX.out
    clear hb4)
  |(go_at_call 17
    with_reducible refine (SI2.out _ HB.out).mono ?_
    rintro e w4 ⟨rfl,hb4⟩
    have HNX:=LH (HNX.out.call hb4)
    have HB:=LH (zA1 HB.out hb4)
    have Un:=LH (And.intro (Un.out.1.below (nl _) hb4) (Un.out.2.below (nl _) hb4))
    have Ub:=LH (Ub.out.call hb4)
    have Vn:=LH (And.intro (Vn.out.1.below (nl _) hb4) (Vn.out.2.below (nl _) hb4))
    have Vb:=LH (Vb.out.call hb4)
    clear d0 d1 
    obtain ⟨d0,d1⟩:=blk2 HNX.out
    clear hb4))
 clear SI1 SI2
 by_cases hvt:V=true
 case neg=>
  obtain rfl:V=false:=by cases V with |false=>rfl |true=>exact absurd rfl hvt
  clear hvt
  go_wp2_with fail
  go_ret
  exact ⟨rfl,HB.out⟩
 subst hvt
 have HIN:Hid (indP (chrR ka C 0 E 0) (chrR kb C2 0 E2 0)):=by
  by_cases h:indP (chrR ka C 0 E 0) (chrR kb C2 0 E2 0)
  ·exact h
  ·have h2:=HVV.out
   rw [zA0 h] at h2
   exact absurd h2 (by simp)
 clear HVV
 go_upto_region 10 with fail
 obtain ⟨NP,LP,nP,mP,kP,eP,hb1,hb2,hok,hg⟩:=all_G2 (N:=recN D n) (L:=recL K m) (kd2K ka kb) (nd2K C 0 C2 0) (lk2K E 0 E2 0) 2 HVS.out
 have HNP:=LH (And.intro hb1 hb2)
 have HOP:=LH hok
 have hal:Below w4.heap.size w4 (w4.alloc (Obj.cells (c2A ka C 0 E 0 kb C2 0 E2 0) 34)):=(bR _ _).alloc (nl _) _
 have HLB:Hid (Blk (w4.alloc (Obj.cells (c2A ka C 0 E 0 kb C2 0 E2 0) 34)) w4.heap.size 34 (c2A ka C 0 E 0 kb C2 0 E2 0)):=Blk.new _ _ _
 have SA:Hid (Calls Tryz.prog 25 #[.agg #[.slice NA n nc0,.slice LA m lc0],.slice (some ⟨w4.heap.size,0,none⟩) 2 2] (w4.alloc (Obj.cells (c2A ka C 0 E 0 kb C2 0 E2 0) 34)) (AlG NP LP nP mP kP eP (w4.alloc (Obj.cells (c2A ka C 0 E 0 kb C2 0 E2 0) 34)))):=
  (sc_ApplyAll NA LA (some ⟨w4.heap.size,0,none⟩) n nc0 m lc0 2 2 D K (kd2K ka kb) (nd2K C 0 C2 0) (lk2K E 0 E2 0) (w4.alloc (Obj.cells (c2A ka C 0 E 0 kb C2 0 E2 0) 34)) HVS.out (by omega) (zB3 HD.out (zA1 HB.out hal)) (zB1 HK.out (zA1 HB.out hal)) (c2_in HLB.out (Un.out.1.below (nl _) hal) (Un.out.2.below (nl _) hal) (Vn.out.1.below (nl _) hal) (Vn.out.2.below (nl _) hal)) (two_z HZ.out.1.1 HZ.out.1.2 HZ.out.2.1 HZ.out.2.2)).mono fun e w'' h=>hg _ _ _ h
 have Uo:=Ub
 have Vo:=Vb
 have HNX:=LH (HNX.out.call hal)
 have HB:=LH (zA1 HB.out hal)
 have Un:=LH (And.intro (Un.out.1.below (nl _) hal) (Un.out.2.below (nl _) hal))
 have Ub:=LH (Ub.out.call hal)
 have Vn:=LH (And.intro (Vn.out.1.below (nl _) hal) (Vn.out.2.below (nl _) hal))
 have Vb:=LH (Vb.out.call hal)
 clear hb1 hb2 hok hg HLB hal
 go_upto_region 11 with (first
  |(refine zY0 rfl 34 (.tmp 4) rfl (w.heap.size+1) rfl _ _ Uo.out _ Tryz.underlying34 rfl (by kernel_rfl) ?_)
  |(refine zY0 rfl 34 (.tmp 5) rfl (w.heap.size+2) rfl _ _ Vo.out _ Tryz.underlying34 rfl (by kernel_rfl) ?_)
  |(refine wpList_bslice rfl 22 2 _ rfl (.slice (some ⟨w4.heap.size,0,none⟩) 2 2) (w4.alloc (Obj.cells (c2A ka C 0 E 0 kb C2 0 E2 0) 34)) (by kernel_rfl) ?_)
  |(go_at_call 25
    with_reducible refine (SA.out).mono ?_
    rintro e w4 ⟨PX,PY,PA,PB,Pc,Pd,rfl,r1,r2,h1,h2,hb4⟩
    have Pr:=LH (And.intro r1 r2)
    have Pn:=LH (And.intro h1 h2)
    have HNX:=LH (HNX.out.call hb4)
    have HB:=LH (zA1 HB.out hb4)
    have Un:=LH (And.intro (Un.out.1.below (nl _) hb4) (Un.out.2.below (nl _) hb4))
    have Ub:=LH (Ub.out.call hb4)
    have Vn:=LH (And.intro (Vn.out.1.below (nl _) hb4) (Vn.out.2.below (nl _) hb4))
    have Vb:=LH (Vb.out.call hb4)
    clear d0 d1 
    obtain ⟨d0,d1⟩:=blk2 HNX.out
    clear hb4 r1 r2 h1 h2))
 have hal:Below w4.heap.size w4 (w4.alloc (Obj.cells #[.slice PA nP Pc,.slice PB mP Pd] 52)):=(bR _ w4).alloc (nl _) _
 have Pb:Hid (Blk (w4.alloc (Obj.cells #[.slice PA nP Pc,.slice PB mP Pd] 52)) w4.heap.size 52 #[.slice PA nP Pc,.slice PB mP Pd]):=Blk.new _ _ _
 have Pn:=LH (And.intro (Pn.out.1.below (nl _) hal) (Pn.out.2.below (nl _) hal))
 have HNX:=LH (HNX.out.call hal)
 have HB:=LH (zA1 HB.out hal)
 have Un:=LH (And.intro (Un.out.1.below (nl _) hal) (Un.out.2.below (nl _) hal))
 have Ub:=LH (Ub.out.call hal)
 have Vn:=LH (And.intro (Vn.out.1.below (nl _) hal) (Vn.out.2.below (nl _) hal))
 have Vb:=LH (Vb.out.call hal)
 clear hal d0 d1 
 generalize w4.alloc (Obj.cells #[.slice PA nP Pc,.slice PB mP Pd] 52)=w5 at HNX HB Un Ub Vn Vb Pn Pb⊢
 generalize w4.heap.size=Pg at Pb⊢
 obtain ⟨d0,d1⟩:=blk2 HNX.out
 obtain ⟨p0_,p1_⟩:=blk2 Pb.out
 clear SA Uo Vo
 obtain ⟨NQ,LQ,nQ,mQ,kQ,eQ,hb1,hb2,hok,hg⟩:=all_G2 (N:=recN D n) (L:=recL K m) (kd2K kb ka) (nd2K C2 0 C 0) (lk2K E2 0 E 0) 2 HVS.out
 have HNQ:=LH (And.intro hb1 hb2)
 have HOQ:=LH hok
 have hal:Below w5.heap.size w5 (w5.alloc (Obj.cells (c2A kb C2 0 E2 0 ka C 0 E 0) 34)):=(bR _ _).alloc (nl _) _
 have HLB:Hid (Blk (w5.alloc (Obj.cells (c2A kb C2 0 E2 0 ka C 0 E 0) 34)) w5.heap.size 34 (c2A kb C2 0 E2 0 ka C 0 E 0)):=Blk.new _ _ _
 have SA:Hid (Calls Tryz.prog 25 #[.agg #[.slice NA n nc0,.slice LA m lc0],.slice (some ⟨w5.heap.size,0,none⟩) 2 2] (w5.alloc (Obj.cells (c2A kb C2 0 E2 0 ka C 0 E 0) 34)) (AlG NQ LQ nQ mQ kQ eQ (w5.alloc (Obj.cells (c2A kb C2 0 E2 0 ka C 0 E 0) 34)))):=
  (sc_ApplyAll NA LA (some ⟨w5.heap.size,0,none⟩) n nc0 m lc0 2 2 D K (kd2K kb ka) (nd2K C2 0 C 0) (lk2K E2 0 E 0) (w5.alloc (Obj.cells (c2A kb C2 0 E2 0 ka C 0 E 0) 34)) HVS.out (by omega) (zB3 HD.out (zA1 HB.out hal)) (zB1 HK.out (zA1 HB.out hal)) (c2_in HLB.out (Vn.out.1.below (nl _) hal) (Vn.out.2.below (nl _) hal) (Un.out.1.below (nl _) hal) (Un.out.2.below (nl _) hal)) (two_z HZ.out.2.1 HZ.out.2.2 HZ.out.1.1 HZ.out.1.2)).mono fun e w'' h=>hg _ _ _ h
 have Uo:=Ub
 have Vo:=Vb
 have HNX:=LH (HNX.out.call hal)
 have HB:=LH (zA1 HB.out hal)
 have Un:=LH (And.intro (Un.out.1.below (nl _) hal) (Un.out.2.below (nl _) hal))
 have Ub:=LH (Ub.out.call hal)
 have Vn:=LH (And.intro (Vn.out.1.below (nl _) hal) (Vn.out.2.below (nl _) hal))
 have Vb:=LH (Vb.out.call hal)
 have Pn:=LH (And.intro (Pn.out.1.below (nl _) hal) (Pn.out.2.below (nl _) hal))
 have Pb:=LH (Pb.out.call hal)
 clear hb1 hb2 hok hg HLB hal
 go_upto_region 12 with (first
  |(refine zY0 rfl 34 (.tmp 4) rfl (w.heap.size+1) rfl _ _ Uo.out _ Tryz.underlying34 rfl (by kernel_rfl) ?_)
  |(refine zY0 rfl 34 (.tmp 5) rfl (w.heap.size+2) rfl _ _ Vo.out _ Tryz.underlying34 rfl (by kernel_rfl) ?_)
  |(refine wpList_bslice rfl 22 2 _ rfl (.slice (some ⟨w5.heap.size,0,none⟩) 2 2) (w5.alloc (Obj.cells (c2A kb C2 0 E2 0 ka C 0 E 0) 34)) (by kernel_rfl) ?_)
  |(go_at_call 25
    with_reducible refine (SA.out).mono ?_
    rintro e w4 ⟨QX,QY,QA,QB,Qc,Qd,rfl,r1,r2,h1,h2,hb4⟩
    have Qr:=LH (And.intro r1 r2)
    have Qn:=LH (And.intro h1 h2)
    have HNX:=LH (HNX.out.call hb4)
    have HB:=LH (zA1 HB.out hb4)
    have Un:=LH (And.intro (Un.out.1.below (nl _) hb4) (Un.out.2.below (nl _) hb4))
    have Ub:=LH (Ub.out.call hb4)
    have Vn:=LH (And.intro (Vn.out.1.below (nl _) hb4) (Vn.out.2.below (nl _) hb4))
    have Vb:=LH (Vb.out.call hb4)
    have Pn:=LH (And.intro (Pn.out.1.below (nl _) hb4) (Pn.out.2.below (nl _) hb4))
    have Pb:=LH (Pb.out.call hb4)
    clear d0 d1 p0_ p1_
    obtain ⟨d0,d1⟩:=blk2 HNX.out
    obtain ⟨p0_,p1_⟩:=blk2 Pb.out
    clear hb4 r1 r2 h1 h2))
 have hal:Below w4.heap.size w4 (w4.alloc (Obj.cells #[.slice QA nQ Qc,.slice QB mQ Qd] 52)):=(bR _ w4).alloc (nl _) _
 have Qb:Hid (Blk (w4.alloc (Obj.cells #[.slice QA nQ Qc,.slice QB mQ Qd] 52)) w4.heap.size 52 #[.slice QA nQ Qc,.slice QB mQ Qd]):=Blk.new _ _ _
 have Qn:=LH (And.intro (Qn.out.1.below (nl _) hal) (Qn.out.2.below (nl _) hal))
 have HNX:=LH (HNX.out.call hal)
 have HB:=LH (zA1 HB.out hal)
 have Un:=LH (And.intro (Un.out.1.below (nl _) hal) (Un.out.2.below (nl _) hal))
 have Ub:=LH (Ub.out.call hal)
 have Vn:=LH (And.intro (Vn.out.1.below (nl _) hal) (Vn.out.2.below (nl _) hal))
 have Vb:=LH (Vb.out.call hal)
 have Pn:=LH (And.intro (Pn.out.1.below (nl _) hal) (Pn.out.2.below (nl _) hal))
 have Pb:=LH (Pb.out.call hal)
 clear hal d0 d1 p0_ p1_
 generalize w4.alloc (Obj.cells #[.slice QA nQ Qc,.slice QB mQ Qd] 52)=w6 at HNX HB Un Ub Vn Vb Pn Pb Qn Qb⊢
 generalize w4.heap.size=Qg at Qb⊢
 obtain ⟨d0,d1⟩:=blk2 HNX.out
 obtain ⟨p0_,p1_⟩:=blk2 Pb.out
 obtain ⟨q0_,q1_⟩:=blk2 Qb.out
 clear SA Uo Vo
 by_cases h1:eP=0
 case neg=>
  have t1:(eP !=0)=true:=by simpa using h1
  clear h1
  go_wp2_with fail
  go_ret
  exact ⟨rfl,HB.out⟩
 subst h1
 by_cases h2:eQ=0
 case neg=>
  have t1:(eQ !=0)=true:=by simpa using h2
  clear h2
  go_wp2_with fail
  go_ret
  exact ⟨rfl,HB.out⟩
 subst h2
 have hq1:=HOP.out rfl
 have hq2:=HOQ.out rfl
 obtain ⟨v1,v2,hal⟩:=ind_alk HVS.out HIN.out hq1.1 hq2.1
 have HVP:Hid (VS (recN PX nP) (recL PY mP)):=by show VS _ _;rw [Pr.out.1,Pr.out.2,hq1.2.1,hq1.2.2];exact v1
 have HVQ:Hid (VS (recN QX nQ) (recL QY mQ)):=by show VS _ _;rw [Qr.out.1,Qr.out.2,hq2.2.1,hq2.2.2];exact v2
 have HAK:Hid (alkP (recN PX nP) (recL PY mP) (recN QX nQ) (recL QY mQ)):=by show alkP _ _ _ _;rw [Pr.out.1,Pr.out.2,hq1.2.1,hq1.2.2,Qr.out.1,Qr.out.2,hq2.2.1,hq2.2.2];exact hal
 clear hq1 hq2 v1 v2 hal
 have SV1:Hid (∀w',Below w6.heap.size w6 w'→Calls Tryz.prog 28 #[.agg #[.slice PA nP Pc,.slice PB mP Pd]] w' fun e w''=>e= .returned (.bool true)∧Below w'.heap.size w' w''):=fun w' hb=>by
  have h:=zD2 PA PB nP Pc mP Pd PX PY HVP.out.zz.sz w' (zB3 Pn.out.1 hb) (zB1 Pn.out.2 hb)
  rw [zA2 HVP.out.to] at h
  exact h
 have SV2:Hid (∀w',Below w6.heap.size w6 w'→Calls Tryz.prog 28 #[.agg #[.slice QA nQ Qc,.slice QB mQ Qd]] w' fun e w''=>e= .returned (.bool true)∧Below w'.heap.size w' w''):=fun w' hb=>by
  have h:=zD2 QA QB nQ Qc mQ Qd QX QY HVQ.out.zz.sz w' (zB3 Qn.out.1 hb) (zB1 Qn.out.2 hb)
  rw [zA2 HVQ.out.to] at h
  exact h
 have SK:Hid (∀w',Below w6.heap.size w6 w'→Calls Tryz.prog 30 #[.agg #[.slice PA nP Pc,.slice PB mP Pd],.agg #[.slice QA nQ Qc,.slice QB mQ Qd]] w' fun e w''=>e= .returned (.bool true)∧Below w'.heap.size w' w''):=fun w' hb=>by
  have h:=r_alike PA PB QA QB nP Pc mP Pd nQ Qc mQ Qd PX QX PY QY w' HVP.out HVQ.out (zB3 Pn.out.1 hb) (zB1 Pn.out.2 hb) (zB3 Qn.out.1 hb) (zB1 Qn.out.2 hb)
  rw [zA2 HAK.out] at h
  exact h
 have HW:Hid (Below w6.heap.size w6 w6):=bR _ _
 have te:((0:Int)!=0)=false:=by decide
 go_wp2_with (first
  |(go_at_call 28
    with_reducible refine (SV1.out _ HW.out).mono ?_
    rintro e w4 ⟨rfl,hb4⟩
    have HNX:=LH (HNX.out.call hb4)
    have HB:=LH (zA1 HB.out hb4)
    have Un:=LH (And.intro (Un.out.1.below (nl _) hb4) (Un.out.2.below (nl _) hb4))
    have Ub:=LH (Ub.out.call hb4)
    have Vn:=LH (And.intro (Vn.out.1.below (nl _) hb4) (Vn.out.2.below (nl _) hb4))
    have Vb:=LH (Vb.out.call hb4)
    have Pn:=LH (And.intro (Pn.out.1.below (nl _) hb4) (Pn.out.2.below (nl _) hb4))
    have Pb:=LH (Pb.out.call hb4)
    have Qn:=LH (And.intro (Qn.out.1.below (nl _) hb4) (Qn.out.2.below (nl _) hb4))
    have Qb:=LH (Qb.out.call hb4)
    clear d0 d1 p0_ p1_ q0_ q1_
    obtain ⟨d0,d1⟩:=blk2 HNX.out
    obtain ⟨p0_,p1_⟩:=blk2 Pb.out
    obtain ⟨q0_,q1_⟩:=blk2 Qb.out
    have HW:=LH (zA1 HW.out hb4)
    clear hb4)
  |(go_at_call 28
    with_reducible refine (SV2.out _ HW.out).mono ?_
    rintro e w4 ⟨rfl,hb4⟩
    have HNX:=LH (HNX.out.call hb4)
    have HB:=LH (zA1 HB.out hb4)
    have Un:=LH (And.intro (Un.out.1.below (nl _) hb4) (Un.out.2.below (nl _) hb4))
    have Ub:=LH (Ub.out.call hb4)
    have Vn:=LH (And.intro (Vn.out.1.below (nl _) hb4) (Vn.out.2.below (nl _) hb4))
    have Vb:=LH (Vb.out.call hb4)
    have Pn:=LH (And.intro (Pn.out.1.below (nl _) hb4) (Pn.out.2.below (nl _) hb4))
    have Pb:=LH (Pb.out.call hb4)
    have Qn:=LH (And.intro (Qn.out.1.below (nl _) hb4) (Qn.out.2.below (nl _) hb4))
    have Qb:=LH (Qb.out.call hb4)
    clear d0 d1 p0_ p1_ q0_ q1_
    obtain ⟨d0,d1⟩:=blk2 HNX.out
    obtain ⟨p0_,p1_⟩:=blk2 Pb.out
    obtain ⟨q0_,q1_⟩:=blk2 Qb.out
    have HW:=LH (zA1 HW.out hb4)
    clear hb4)
  |(go_at_call 30
    with_reducible refine (SK.out _ HW.out).mono ?_
    rintro e w4 ⟨rfl,hb4⟩
    have HNX:=LH (HNX.out.call hb4)
    have HB:=LH (zA1 HB.out hb4)
    have Un:=LH (And.intro (Un.out.1.below (nl _) hb4) (Un.out.2.below (nl _) hb4))
    have Ub:=LH (Ub.out.call hb4)
    have Vn:=LH (And.intro (Vn.out.1.below (nl _) hb4) (Vn.out.2.below (nl _) hb4))
    have Vb:=LH (Vb.out.call hb4)
    have Pn:=LH (And.intro (Pn.out.1.below (nl _) hb4) (Pn.out.2.below (nl _) hb4))
    have Pb:=LH (Pb.out.call hb4)
    have Qn:=LH (And.intro (Qn.out.1.below (nl _) hb4) (Qn.out.2.below (nl _) hb4))
    have Qb:=LH (Qb.out.call hb4)
    clear d0 d1 p0_ p1_ q0_ q1_
    obtain ⟨d0,d1⟩:=blk2 HNX.out
    obtain ⟨p0_,p1_⟩:=blk2 Pb.out
    obtain ⟨q0_,q1_⟩:=blk2 Qb.out
    have HW:=LH (zA1 HW.out hb4)
    clear hb4))
 go_ret
 exact ⟨rfl,HB.out⟩
end Go.Proofs.YtchakniaoeodmaaGreatDoor

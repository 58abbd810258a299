/- Merged texts of these proofs: OpAp, LAp. -/
import Derived.Test.YtchakniaoeodmaaGreatDoorZStay
import Derived.LaidMore
import Derived.Lay
import Derived.Stop.Joined
import Derived.Stop.LaidErr
import Derived.Lib.LaidTab
import Derived.Test.YtchakniaoeodmaaGreatDoorZMgAw
import Derived.Test.YtchakniaoeodmaaGreatDoorZSrZ
namespace Go.Proofs.YtchakniaoeodmaaGreatDoor.scenarioAppliesRow
open Go.Proofs.YtchakniaoeodmaaGreatDoor Go.RowKit Go.WideShapes Go.ChangeShapes Go.ChangeAt Go.Deep Go.Joins
set_option linter.unusedVariables false
set_option linter.unusedSimpArgs false
theorem door_met (os:Os) (args:Array Value):laidMetH Tryz.prog Rows.scenarioAppliesRow.laid ((World.laidAll Tryz.prog os Rows.scenarioAppliesRow.laid).forCall (fun _ _=>0) ⟨#[],args,[]⟩).memory:=by
 rw [MakeChecks.laidMetH_plain _ _ _ (by kernel_rfl)]
 exact laidMet_laidAll _ (by kernel_rfl) (by kernel_rfl)
end Go.Proofs.YtchakniaoeodmaaGreatDoor.scenarioAppliesRow
namespace Go.Proofs.YtchakniaoeodmaaGreatDoor
open Go.RowKit
set_option maxRecDepth 100000 in
set_option maxHeartbeats 32000000 in
theorem l_applies (NA LA:Option Addr) (n nc0 m lc0:Nat) (kd:Int) (D C:Nds) (K E:Lks) (w:World) (hD:NdIn w NA n D) (hK:LkIn w LA m K) (hTx:TabIn w (C.SA 0) (C.SN 0) (C.SX 0) (C.SY 0)) (hTl:TabIn w (E.CA 0) (E.CN 0) (E.CX 0) (E.CY 0)):
 Calls Tryz.prog 6 #[.agg #[.slice NA n nc0,.slice LA m lc0],.agg (chA kd C 0 E 0)] w fun e w'=>e= .returned (.bool true)∧Below w.heap.size w w':=by
 have hal:Below w.heap.size w ((w.alloc (Obj.cells #[.slice NA n nc0,.slice LA m lc0] 52)).alloc (Obj.cells (chA kd C 0 E 0) 34)):=((bR _ w).alloc (nl _) _).alloc (by simp) _
 have HB:=LH hal
 have HNX:Hid (Blk ((w.alloc (Obj.cells #[.slice NA n nc0,.slice LA m lc0] 52)).alloc (Obj.cells (chA kd C 0 E 0) 34)) w.heap.size 52 #[.slice NA n nc0,.slice LA m lc0]):=(Blk.new _ _ _).alloc _
 have HCX:Hid (Blk ((w.alloc (Obj.cells #[.slice NA n nc0,.slice LA m lc0] 52)).alloc (Obj.cells (chA kd C 0 E 0) 34)) (w.heap.size+1) 34 (chA kd C 0 E 0)):=by have h:=Blk.new (w.alloc (Obj.cells #[.slice NA n nc0,.slice LA m lc0] 52)) 34 (chA kd C 0 E 0);rw [zB2] at h;exact h
 have HD:=LH hD
 have HK:=LH hK
 have HTx:=LH hTx
 have HTl:=LH hTl
 have SH:Hid (∀w',Below w.heap.size w w'→Calls Tryz.prog 24 #[.agg #[.slice NA n nc0,.slice LA m lc0]] w' fun e w''=>e= .returned (.bool (boolOf (hvyP D n K m)))∧Below w'.heap.size w' w''):=fun w' hb=>sc_heavy NA LA n nc0 m lc0 D K w' (zB1 HD.out hb) (zA9 HK.out hb)
 have SL:=LH (sc_long kd 0 0 C E)
 clear hD hK hTx hTl hal
 go_enter Tryz.func6,Tryz.ntmps6
 go_upto_region 1 with fail
 generalize (w.alloc (Obj.cells #[.slice NA n nc0,.slice LA m lc0] 52)).alloc (Obj.cells (chA kd C 0 E 0) 34)=w2 at HB HNX HCX⊢
 obtain ⟨d0,d1⟩:=blk2 HNX.out
 by_cases hh:hvyP D n K m
 ·rw [zA2 hh] at SH
  clear hh
  go_wp2_with (first
  |(go_at_call 10
    with_reducible refine (awake40 _).mono ?_
    rintro e w4 ⟨rfl,hb4⟩
    have HNX:=LH (HNX.out.call hb4)
    have HCX:=LH (HCX.out.call hb4)
    have HB:=LH (zA1 HB.out hb4)
    clear d0 d1 
    obtain ⟨d0,d1⟩:=blk2 HNX.out
    clear hb4)
  |(go_at_call 24
    with_reducible refine (SH.out _ HB.out).mono ?_
    rintro e w4 ⟨rfl,hb4⟩
    have HNX:=LH (HNX.out.call hb4)
    have HCX:=LH (HCX.out.call hb4)
    have HB:=LH (zA1 HB.out hb4)
    clear d0 d1 
    obtain ⟨d0,d1⟩:=blk2 HNX.out
    clear hb4))
  go_ret
  exact ⟨rfl,HB.out⟩
 rw [zA0 hh] at SH
 by_cases hl:lgnP C 0∨lgkP E 0
 ·rw [zA2 hl] at SL
  clear hh hl
  go_wp2_with (first
  |(go_at_call 10
    with_reducible refine (awake40 _).mono ?_
    rintro e w4 ⟨rfl,hb4⟩
    have HNX:=LH (HNX.out.call hb4)
    have HCX:=LH (HCX.out.call hb4)
    have HB:=LH (zA1 HB.out hb4)
    clear d0 d1 
    obtain ⟨d0,d1⟩:=blk2 HNX.out
    clear hb4)
  |(go_at_call 24
    with_reducible refine (SH.out _ HB.out).mono ?_
    rintro e w4 ⟨rfl,hb4⟩
    have HNX:=LH (HNX.out.call hb4)
    have HCX:=LH (HCX.out.call hb4)
    have HB:=LH (zA1 HB.out hb4)
    clear d0 d1 
    obtain ⟨d0,d1⟩:=blk2 HNX.out
    clear hb4)
  |(refine zF7 rfl 34 (.tmp 3) rfl (w.heap.size+1) rfl _ _ HCX.out _ Tryz.underlying34 rfl (by kernel_rfl) ?_)
  |(go_at_call 12
    with_reducible refine (SL.out _).mono ?_
    rintro e w4 ⟨rfl,hb4⟩
    have HNX:=LH (HNX.out.call hb4)
    have HCX:=LH (HCX.out.call hb4)
    have HB:=LH (zA1 HB.out hb4)
    clear d0 d1 
    obtain ⟨d0,d1⟩:=blk2 HNX.out
    clear hb4))
  go_ret
  exact ⟨rfl,HB.out⟩
 rw [zA0 hl] at SL
 have hzz:=hvy_zz hh
 have hzx:ZN (zA7 C 0):=ln_z fun h=>hl (.inl h)
 have hzl:ZL (zA6 E 0):=ll_z fun h=>hl (.inr h)
 obtain ⟨n2,hn2⟩:∃k,(ApN (recN D n) (recL K m) (chrR kd C 0 E 0)).length=k:=⟨_,rfl⟩
 obtain ⟨m2,hm2⟩:∃k,(ApL (recN D n) (recL K m) (chrR kd C 0 E 0)).length=k:=⟨_,rfl⟩
 obtain ⟨N2,hN2⟩:∃k,ApN (recN D n) (recL K m) (chrR kd C 0 E 0)=k:=⟨_,rfl⟩
 obtain ⟨L2,hL2⟩:∃k,ApL (recN D n) (recL K m) (chrR kd C 0 E 0)=k:=⟨_,rfl⟩
 obtain ⟨er,her⟩:∃k,ApE (recN D n) (recL K m) (chrR kd C 0 E 0)=k:=⟨_,rfl⟩
 obtain ⟨R1,hR1⟩:∃R,(if ApE (recN D n) (recL K m) (chrR kd C 0 E 0)=0 then undC (recN D n) (recL K m) (chrR kd C 0 E 0) else ⟨0,zNd,zLk⟩)=R:=⟨_,rfl⟩
 have hb2:n2≤2000∧m2≤2000:=by
  rw [←hn2,←hm2]
  unfold ApN ApL
  have h1:=hvy_not hh
  have a:=len_opN (N:=recN D n) (c:=chrR kd C 0 E 0)
  have b:=len_opL (N:=recL K m) (c:=chrR kd C 0 E 0)
  rw [zA3] at a
  rw [zA4] at b
  split
  ·omega
  ·simp
 rw [hN2] at hn2
 rw [hL2] at hm2
 have SA:Hid (∀w',Below w.heap.size w w'→Calls Tryz.prog 31 #[.agg #[.slice NA n nc0,.slice LA m lc0],.agg (chA kd C 0 E 0)] w' (ApR N2 L2 n2 m2 er w')):=fun w' hb=>(zI1 NA LA n nc0 m lc0 0 0 kd D C K E w' hzz hzx hzl (zB1 HD.out hb) (zA9 HK.out hb) (HTx.out.below (nl _) hb) (HTl.out.below (nl _) hb)).mono fun e w'' h=>apl_R h hN2 hL2 her hn2 hm2 hb2.1 hb2.2
 have SA2:Hid (∀w',Below w.heap.size w w'→Calls Tryz.prog 32 #[.agg #[.slice NA n nc0,.slice LA m lc0],.agg (chA kd C 0 E 0)] w' (ApR N2 L2 n2 m2 er w')):=fun w' hb=>(zM3 NA LA n nc0 m lc0 0 0 kd D C K E w' hzz hzx hzl (zB1 HD.out hb) (zA9 HK.out hb) (HTx.out.below (nl _) hb) (HTl.out.below (nl _) hb)).mono fun e w'' h=>apl_R h hN2 hL2 her hn2 hm2 hb2.1 hb2.2
 have SU:Hid (∀w',Below w.heap.size w w'→Calls Tryz.prog 33 #[.agg #[.slice NA n nc0,.slice LA m lc0],.agg (chA kd C 0 E 0)] w' (UnR R1 er w')):=fun w' hb=>(sc_Undo NA LA n nc0 m lc0 0 0 kd D C K E w' hzz hzx hzl (zB1 HD.out hb) (zA9 HK.out hb) (HTx.out.below (nl _) hb) (HTl.out.below (nl _) hb)).mono fun e w'' h=>und_R h her hR1
 have SU2:Hid (∀w',Below w.heap.size w w'→Calls Tryz.prog 34 #[.agg #[.slice NA n nc0,.slice LA m lc0],.agg (chA kd C 0 E 0)] w' (UnR R1 er w')):=fun w' hb=>(r_Undo NA LA n nc0 m lc0 0 0 kd D C K E w' hzz hzx hzl (zB1 HD.out hb) (zA9 HK.out hb) (HTx.out.below (nl _) hb) (HTl.out.below (nl _) hb)).mono fun e w'' h=>und_R h her hR1
 have HB2:=LH hb2
 have te:(er==er)=true:=by simp
 clear hh hl hzz hzx hzl hn2 hm2 hN2 hL2 her hR1 hb2
 go_upto_region 5 with (first
  |(go_at_call 10
    with_reducible refine (awake40 _).mono ?_
    rintro e w4 ⟨rfl,hb4⟩
    have HNX:=LH (HNX.out.call hb4)
    have HCX:=LH (HCX.out.call hb4)
    have HB:=LH (zA1 HB.out hb4)
    clear d0 d1 
    obtain ⟨d0,d1⟩:=blk2 HNX.out
    clear hb4)
  |(go_at_call 24
    with_reducible refine (SH.out _ HB.out).mono ?_
    rintro e w4 ⟨rfl,hb4⟩
    have HNX:=LH (HNX.out.call hb4)
    have HCX:=LH (HCX.out.call hb4)
    have HB:=LH (zA1 HB.out hb4)
    clear d0 d1 
    obtain ⟨d0,d1⟩:=blk2 HNX.out
    clear hb4)
  |(refine zF7 rfl 34 (.tmp 3) rfl (w.heap.size+1) rfl _ _ HCX.out _ Tryz.underlying34 rfl (by kernel_rfl) ?_)
  |(go_at_call 12
    with_reducible refine (SL.out _).mono ?_
    rintro e w4 ⟨rfl,hb4⟩
    have HNX:=LH (HNX.out.call hb4)
    have HCX:=LH (HCX.out.call hb4)
    have HB:=LH (zA1 HB.out hb4)
    clear d0 d1 
    obtain ⟨d0,d1⟩:=blk2 HNX.out
    clear hb4))
 go_upto_region 6 with (first
  |(refine wpList_load_row rfl 34 (.tmp 3) rfl _ rfl _ _ (0,0) _ HCX.out Tryz.underlying34 rfl (by kernel_rfl) ?_)
  |(go_at_call 31
    with_reducible refine (SA.out _ HB.out).mono ?_
    rintro e w4 ⟨PX,PY,PA,PB,Pc,Pd,rfl,r1,r2,h1,h2,hb4⟩
    have Pr:=LH (And.intro r1 r2)
    have Pn:=LH (And.intro h1 h2)
    have HNX:=LH (HNX.out.call hb4)
    have HCX:=LH (HCX.out.call hb4)
    have HB:=LH (zA1 HB.out hb4)
    clear d0 d1 
    obtain ⟨d0,d1⟩:=blk2 HNX.out
    clear hb4 r1 r2 h1 h2))
 have hal:Below w4.heap.size w4 (w4.alloc (Obj.cells #[.slice PA n2 Pc,.slice PB m2 Pd] 52)):=(bR _ w4).alloc (nl _) _
 have Pb:Hid (Blk (w4.alloc (Obj.cells #[.slice PA n2 Pc,.slice PB m2 Pd] 52)) w4.heap.size 52 #[.slice PA n2 Pc,.slice PB m2 Pd]):=Blk.new _ _ _
 have Pn:=LH (And.intro (Pn.out.1.below (nl _) hal) (Pn.out.2.below (nl _) hal))
 have HNX:=LH (HNX.out.call hal)
 have HCX:=LH (HCX.out.call hal)
 have HB:=LH (zA1 HB.out hal)
 clear hal d0 d1 
 generalize w4.alloc (Obj.cells #[.slice PA n2 Pc,.slice PB m2 Pd] 52)=w5 at HNX HCX HB Pn Pb⊢
 generalize w4.heap.size=Pg at Pb⊢
 obtain ⟨d0,d1⟩:=blk2 HNX.out
 obtain ⟨p0_,p1_⟩:=blk2 Pb.out
 go_upto_region 7 with (first
  |(refine wpList_load_row rfl 34 (.tmp 3) rfl _ rfl _ _ (0,0) _ HCX.out Tryz.underlying34 rfl (by kernel_rfl) ?_)
  |(go_at_call 32
    with_reducible refine (SA2.out _ HB.out).mono ?_
    rintro e w4 ⟨QX,QY,QA,QB,Qc,Qd,rfl,r1,r2,h1,h2,hb4⟩
    have Qr:=LH (And.intro r1 r2)
    have Qn:=LH (And.intro h1 h2)
    have HNX:=LH (HNX.out.call hb4)
    have HCX:=LH (HCX.out.call hb4)
    have HB:=LH (zA1 HB.out hb4)
    have Pn:=LH (And.intro (Pn.out.1.below (nl _) hb4) (Pn.out.2.below (nl _) hb4))
    have Pb:=LH (Pb.out.call hb4)
    clear d0 d1 p0_ p1_
    obtain ⟨d0,d1⟩:=blk2 HNX.out
    obtain ⟨p0_,p1_⟩:=blk2 Pb.out
    clear hb4 r1 r2 h1 h2))
 have hal:Below w4.heap.size w4 (w4.alloc (Obj.cells #[.slice QA n2 Qc,.slice QB m2 Qd] 52)):=(bR _ w4).alloc (nl _) _
 have Qb:Hid (Blk (w4.alloc (Obj.cells #[.slice QA n2 Qc,.slice QB m2 Qd] 52)) w4.heap.size 52 #[.slice QA n2 Qc,.slice QB m2 Qd]):=Blk.new _ _ _
 have Qn:=LH (And.intro (Qn.out.1.below (nl _) hal) (Qn.out.2.below (nl _) hal))
 have HNX:=LH (HNX.out.call hal)
 have HCX:=LH (HCX.out.call hal)
 have HB:=LH (zA1 HB.out hal)
 have Pn:=LH (And.intro (Pn.out.1.below (nl _) hal) (Pn.out.2.below (nl _) hal))
 have Pb:=LH (Pb.out.call hal)
 clear hal d0 d1 p0_ p1_
 generalize w4.alloc (Obj.cells #[.slice QA n2 Qc,.slice QB m2 Qd] 52)=w6 at HNX HCX HB Pn Pb Qn Qb⊢
 generalize w4.heap.size=Qg at Qb⊢
 obtain ⟨d0,d1⟩:=blk2 HNX.out
 obtain ⟨p0_,p1_⟩:=blk2 Pb.out
 obtain ⟨q0_,q1_⟩:=blk2 Qb.out
 go_upto_region 8 with (first
  |(refine wpList_load_row rfl 34 (.tmp 3) rfl _ rfl _ _ (0,0) _ HCX.out Tryz.underlying34 rfl (by kernel_rfl) ?_)
  |(refine wpList_store_row rfl 34 (.tmp 9) (.tmp 37) rfl w4.heap.size (chA Uk UX Ui UY Uj) rfl rfl _ _ (Blk.new w4 _ _) (by kernel_rfl) rfl (by kernel_rfl) ?_)
  |(go_at_call 33
    with_reducible refine (SU.out _ HB.out).mono ?_
    rintro e w4 ⟨Uk,UX,UY,Ui,Uj,rfl,r1,h1,h2,hb4⟩
    have Ur:=LH r1
    have Un:=LH (And.intro h1 h2)
    have HNX:=LH (HNX.out.call hb4)
    have HCX:=LH (HCX.out.call hb4)
    have HB:=LH (zA1 HB.out hb4)
    have Pn:=LH (And.intro (Pn.out.1.below (nl _) hb4) (Pn.out.2.below (nl _) hb4))
    have Pb:=LH (Pb.out.call hb4)
    have Qn:=LH (And.intro (Qn.out.1.below (nl _) hb4) (Qn.out.2.below (nl _) hb4))
    have Qb:=LH (Qb.out.call hb4)
    clear d0 d1 p0_ p1_ q0_ q1_
    obtain ⟨d0,d1⟩:=blk2 HNX.out
    obtain ⟨p0_,p1_⟩:=blk2 Pb.out
    obtain ⟨q0_,q1_⟩:=blk2 Qb.out
    clear hb4 r1 h1 h2))
 have hal:Below w4.heap.size w4 ((w4.alloc (Obj.cells cZc 34)).setRow w4.heap.size (chA Uk UX Ui UY Uj)):=zA5 ((bR _ w4).alloc (nl _) _) (Blk.new w4 34 _) (nl _)
 have Ub:Hid (Blk ((w4.alloc (Obj.cells cZc 34)).setRow w4.heap.size (chA Uk UX Ui UY Uj)) w4.heap.size 34 (chA Uk UX Ui UY Uj)):=(Blk.new w4 34 _).setRow
 have Un:=LH (And.intro (Un.out.1.below (nl _) hal) (Un.out.2.below (nl _) hal))
 have HNX:=LH (HNX.out.call hal)
 have HCX:=LH (HCX.out.call hal)
 have HB:=LH (zA1 HB.out hal)
 have Pn:=LH (And.intro (Pn.out.1.below (nl _) hal) (Pn.out.2.below (nl _) hal))
 have Pb:=LH (Pb.out.call hal)
 have Qn:=LH (And.intro (Qn.out.1.below (nl _) hal) (Qn.out.2.below (nl _) hal))
 have Qb:=LH (Qb.out.call hal)
 clear hal d0 d1 p0_ p1_ q0_ q1_
 generalize (w4.alloc (Obj.cells cZc 34)).setRow w4.heap.size (chA Uk UX Ui UY Uj)=w7 at HNX HCX HB Pn Pb Qn Qb Un Ub⊢
 generalize w4.heap.size=Ug at Ub⊢
 obtain ⟨d0,d1⟩:=blk2 HNX.out
 obtain ⟨p0_,p1_⟩:=blk2 Pb.out
 obtain ⟨q0_,q1_⟩:=blk2 Qb.out
 go_upto_region 9 with (first
  |(refine wpList_load_row rfl 34 (.tmp 3) rfl _ rfl _ _ (0,0) _ HCX.out Tryz.underlying34 rfl (by kernel_rfl) ?_)
  |(refine wpList_store_row rfl 34 (.tmp 11) (.tmp 43) rfl w4.heap.size (chA Vk VX Vi VY Vj) rfl rfl _ _ (Blk.new w4 _ _) (by kernel_rfl) rfl (by kernel_rfl) ?_)
  |(go_at_call 34
    with_reducible refine (SU2.out _ HB.out).mono ?_
    rintro e w4 ⟨Vk,VX,VY,Vi,Vj,rfl,r1,h1,h2,hb4⟩
    have Vr:=LH r1
    have Vn:=LH (And.intro h1 h2)
    have HNX:=LH (HNX.out.call hb4)
    have HCX:=LH (HCX.out.call hb4)
    have HB:=LH (zA1 HB.out hb4)
    have Pn:=LH (And.intro (Pn.out.1.below (nl _) hb4) (Pn.out.2.below (nl _) hb4))
    have Pb:=LH (Pb.out.call hb4)
    have Qn:=LH (And.intro (Qn.out.1.below (nl _) hb4) (Qn.out.2.below (nl _) hb4))
    have Qb:=LH (Qb.out.call hb4)
    have Un:=LH (And.intro (Un.out.1.below (nl _) hb4) (Un.out.2.below (nl _) hb4))
    have Ub:=LH (Ub.out.call hb4)
    clear d0 d1 p0_ p1_ q0_ q1_
    obtain ⟨d0,d1⟩:=blk2 HNX.out
    obtain ⟨p0_,p1_⟩:=blk2 Pb.out
    obtain ⟨q0_,q1_⟩:=blk2 Qb.out
    clear hb4 r1 h1 h2))
 have hal:Below w4.heap.size w4 ((w4.alloc (Obj.cells cZc 34)).setRow w4.heap.size (chA Vk VX Vi VY Vj)):=zA5 ((bR _ w4).alloc (nl _) _) (Blk.new w4 34 _) (nl _)
 have Vb:Hid (Blk ((w4.alloc (Obj.cells cZc 34)).setRow w4.heap.size (chA Vk VX Vi VY Vj)) w4.heap.size 34 (chA Vk VX Vi VY Vj)):=(Blk.new w4 34 _).setRow
 have Vn:=LH (And.intro (Vn.out.1.below (nl _) hal) (Vn.out.2.below (nl _) hal))
 have HNX:=LH (HNX.out.call hal)
 have HCX:=LH (HCX.out.call hal)
 have HB:=LH (zA1 HB.out hal)
 have Pn:=LH (And.intro (Pn.out.1.below (nl _) hal) (Pn.out.2.below (nl _) hal))
 have Pb:=LH (Pb.out.call hal)
 have Qn:=LH (And.intro (Qn.out.1.below (nl _) hal) (Qn.out.2.below (nl _) hal))
 have Qb:=LH (Qb.out.call hal)
 have Un:=LH (And.intro (Un.out.1.below (nl _) hal) (Un.out.2.below (nl _) hal))
 have Ub:=LH (Ub.out.call hal)
 clear hal d0 d1 p0_ p1_ q0_ q1_
 generalize (w4.alloc (Obj.cells cZc 34)).setRow w4.heap.size (chA Vk VX Vi VY Vj)=w8 at HNX HCX HB Pn Pb Qn Qb Un Ub Vn Vb⊢
 generalize w4.heap.size=Vg at Vb⊢
 obtain ⟨d0,d1⟩:=blk2 HNX.out
 obtain ⟨p0_,p1_⟩:=blk2 Pb.out
 obtain ⟨q0_,q1_⟩:=blk2 Qb.out
 clear SA SA2 SU SU2 SH SL
 have SM:Hid (∀w',Below w8.heap.size w8 w'→Calls Tryz.prog 27 #[.agg #[.slice PA n2 Pc,.slice PB m2 Pd],.agg #[.slice QA n2 Qc,.slice QB m2 Qd]] w' fun e w''=>e= .returned (.bool true)∧Below w'.heap.size w' w''):=fun w' hb=>by
  have h:=rsameNet PA PB QA QB n2 Pc m2 Pd n2 Qc m2 Qd PX QX PY QY w' HB2.out.1 HB2.out.2 (zB1 Pn.out.1 hb) (zA9 Pn.out.2 hb) (zB1 Qn.out.1 hb) (zA9 Qn.out.2 hb)
  rw [zA2 (show netS PX n2 PY m2 QX n2 QY m2 from ⟨Pr.out.1.trans Qr.out.1.symm,Pr.out.2.trans Qr.out.2.symm⟩)] at h
  exact h
 have SS:Hid (∀w',Below w8.heap.size w8 w'→Calls Tryz.prog 16 #[.agg (chA Uk UX Ui UY Uj),.agg (chA Vk VX Vi VY Vj)] w' fun e w''=>e= .returned (.bool true)∧Below w'.heap.size w' w''):=fun w' hb=>by
  have h:=r_same Uk Vk Ui Uj Vi Vj UX VX UY VY w' (Un.out.1.below (nl _) hb) (Un.out.2.below (nl _) hb) (Vn.out.1.below (nl _) hb) (Vn.out.2.below (nl _) hb)
  rw [zA2 (Ur.out.trans Vr.out.symm)] at h
  exact h
 have HW:Hid (Below w8.heap.size w8 w8):=bR _ _
 go_wp2_with (first
  |(refine zF7 rfl 34 (.tmp 9) rfl Ug rfl _ _ Ub.out _ Tryz.underlying34 rfl (by kernel_rfl) ?_)
  |(refine zF7 rfl 34 (.tmp 11) rfl Vg rfl _ _ Vb.out _ Tryz.underlying34 rfl (by kernel_rfl) ?_)
  |(go_at_call 27
    with_reducible refine (SM.out _ HW.out).mono ?_
    rintro e w4 ⟨rfl,hb4⟩
    have HNX:=LH (HNX.out.call hb4)
    have HCX:=LH (HCX.out.call hb4)
    have HB:=LH (zA1 HB.out hb4)
    have Pn:=LH (And.intro (Pn.out.1.below (nl _) hb4) (Pn.out.2.below (nl _) hb4))
    have Pb:=LH (Pb.out.call hb4)
    have Qn:=LH (And.intro (Qn.out.1.below (nl _) hb4) (Qn.out.2.below (nl _) hb4))
    have Qb:=LH (Qb.out.call hb4)
    have Un:=LH (And.intro (Un.out.1.below (nl _) hb4) (Un.out.2.below (nl _) hb4))
    have Ub:=LH (Ub.out.call hb4)
    have Vn:=LH (And.intro (Vn.out.1.below (nl _) hb4) (Vn.out.2.below (nl _) hb4))
    have Vb:=LH (Vb.out.call hb4)
    clear d0 d1 p0_ p1_ q0_ q1_
    obtain ⟨d0,d1⟩:=blk2 HNX.out
    obtain ⟨p0_,p1_⟩:=blk2 Pb.out
    obtain ⟨q0_,q1_⟩:=blk2 Qb.out
    have HW:=LH (zA1 HW.out hb4)
    clear hb4)
  |(go_at_call 16
    with_reducible refine (SS.out _ HW.out).mono ?_
    rintro e w4 ⟨rfl,hb4⟩
    have HNX:=LH (HNX.out.call hb4)
    have HCX:=LH (HCX.out.call hb4)
    have HB:=LH (zA1 HB.out hb4)
    have Pn:=LH (And.intro (Pn.out.1.below (nl _) hb4) (Pn.out.2.below (nl _) hb4))
    have Pb:=LH (Pb.out.call hb4)
    have Qn:=LH (And.intro (Qn.out.1.below (nl _) hb4) (Qn.out.2.below (nl _) hb4))
    have Qb:=LH (Qb.out.call hb4)
    have Un:=LH (And.intro (Un.out.1.below (nl _) hb4) (Un.out.2.below (nl _) hb4))
    have Ub:=LH (Ub.out.call hb4)
    have Vn:=LH (And.intro (Vn.out.1.below (nl _) hb4) (Vn.out.2.below (nl _) hb4))
    have Vb:=LH (Vb.out.call hb4)
    clear d0 d1 p0_ p1_ q0_ q1_
    obtain ⟨d0,d1⟩:=blk2 HNX.out
    obtain ⟨p0_,p1_⟩:=blk2 Pb.out
    obtain ⟨q0_,q1_⟩:=blk2 Qb.out
    have HW:=LH (zA1 HW.out hb4)
    clear hb4))
 go_ret
 exact ⟨rfl,HB.out⟩
end Go.Proofs.YtchakniaoeodmaaGreatDoor

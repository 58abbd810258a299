/- Merged texts of these proofs: OpUn, LUn. -/
import Derived.Test.YtchakniaoeodmaaGreatDoorStay
import Derived.LaidMore
import Derived.Lay
import Derived.Stop.Joined
import Derived.Stop.LaidErr
import Derived.Lib.LaidTab
import Derived.Test.YtchakniaoeodmaaGreatDoorMgAw
import Derived.Test.YtchakniaoeodmaaGreatDoorScW
import Derived.Test.YtchakniaoeodmaaGreatDoorMgAl
namespace Go.Proofs.YtchakniaoeodmaaGreatDoor.scenarioUndoneRow
open Go.Proofs.YtchakniaoeodmaaGreatDoor Go.RowKit Go.WideShapes Go.ChangeShapes Go.ChangeAt Go.Deep Go.Joins
set_option linter.unusedVariables false
set_option linter.unusedSimpArgs false
theorem door_met (os:Os) (args:Array Value):laidMetH Tryz.prog Rows.scenarioUndoneRow.laid ((World.laidAll Tryz.prog os Rows.scenarioUndoneRow.laid).forCall (fun _ _=>0) ⟨#[],args,[]⟩).memory:=by
 rw [MakeChecks.laidMetH_plain _ _ _ (by kernel_rfl)]
 exact laidMet_laidAll _ (by kernel_rfl) (by kernel_rfl)
end Go.Proofs.YtchakniaoeodmaaGreatDoor.scenarioUndoneRow
namespace Go.Proofs.YtchakniaoeodmaaGreatDoor
open Go.RowKit
set_option maxRecDepth 100000 in
set_option maxHeartbeats 32000000 in
theorem l_undone (NA LA:Option Addr) (n nc0 m lc0:Nat) (kd:Int) (D C:Nds) (K E:Lks) (w:World) (hD:NdIn w NA n D) (hK:LkIn w LA m K) (hTx:TabIn w (C.SA 0) (C.SN 0) (C.SX 0) (C.SY 0)) (hTl:TabIn w (E.CA 0) (E.CN 0) (E.CX 0) (E.CY 0)):
 Calls Tryz.prog 7 #[.agg #[.slice NA n nc0,.slice LA m lc0],.agg (chA kd C 0 E 0)] w fun e w'=>e= .returned (.bool true)∧Below w.heap.size w w':=by
 have hal:Below w.heap.size w ((w.alloc (Obj.cells #[.slice NA n nc0,.slice LA m lc0] 52)).alloc (Obj.cells (chA kd C 0 E 0) 34)):=((bR _ w).alloc (nl _) _).alloc (by simp) _
 have HB:=LH hal
 have HNX:Hid (Blk ((w.alloc (Obj.cells #[.slice NA n nc0,.slice LA m lc0] 52)).alloc (Obj.cells (chA kd C 0 E 0) 34)) w.heap.size 52 #[.slice NA n nc0,.slice LA m lc0]):=(Blk.new _ _ _).alloc _
 have HCX:Hid (Blk ((w.alloc (Obj.cells #[.slice NA n nc0,.slice LA m lc0] 52)).alloc (Obj.cells (chA kd C 0 E 0) 34)) (w.heap.size+1) 34 (chA kd C 0 E 0)):=by have h:=Blk.new (w.alloc (Obj.cells #[.slice NA n nc0,.slice LA m lc0] 52)) 34 (chA kd C 0 E 0);rw [zB0] at h;exact h
 have HD:=LH hD
 have HK:=LH hK
 have HTx:=LH hTx
 have HTl:=LH hTl
 have SH:Hid (∀w',Below w.heap.size w w'→Calls Tryz.prog 24 #[.agg #[.slice NA n nc0,.slice LA m lc0]] w' fun e w''=>e= .returned (.bool (boolOf (hvyP D n K m)))∧Below w'.heap.size w' w''):=fun w' hb=>sc_heavy NA LA n nc0 m lc0 D K w' (zA9 HD.out hb) (zA8 HK.out hb)
 have SL:=LH (sc_long kd 0 0 C E)
 clear hD hK hTx hTl hal
 go_enter Tryz.func7,Tryz.ntmps7
 go_upto_region 1 with fail
 generalize (w.alloc (Obj.cells #[.slice NA n nc0,.slice LA m lc0] 52)).alloc (Obj.cells (chA kd C 0 E 0) 34)=w2 at HB HNX HCX⊢
 obtain ⟨d0,d1⟩:=blk2 HNX.out
 by_cases hh:hvyP D n K m
 ·rw [zA2 hh] at SH
  clear hh
  go_wp2_with (first
  |(go_at_call 10
    with_reducible refine (zP8 _).mono ?_
    rintro e w4 ⟨rfl,hb4⟩
    have HNX:=LH (HNX.out.call hb4)
    have HCX:=LH (HCX.out.call hb4)
    have HB:=LH (zA0 HB.out hb4)
    clear d0 d1 
    obtain ⟨d0,d1⟩:=blk2 HNX.out
    clear hb4)
  |(go_at_call 24
    with_reducible refine (SH.out _ HB.out).mono ?_
    rintro e w4 ⟨rfl,hb4⟩
    have HNX:=LH (HNX.out.call hb4)
    have HCX:=LH (HCX.out.call hb4)
    have HB:=LH (zA0 HB.out hb4)
    clear d0 d1 
    obtain ⟨d0,d1⟩:=blk2 HNX.out
    clear hb4))
  go_ret
  exact ⟨rfl,HB.out⟩
 rw [zA1 hh] at SH
 by_cases hl:lgnP C 0∨lgkP E 0
 ·rw [zA2 hl] at SL
  clear hh hl
  go_wp2_with (first
  |(go_at_call 10
    with_reducible refine (zP8 _).mono ?_
    rintro e w4 ⟨rfl,hb4⟩
    have HNX:=LH (HNX.out.call hb4)
    have HCX:=LH (HCX.out.call hb4)
    have HB:=LH (zA0 HB.out hb4)
    clear d0 d1 
    obtain ⟨d0,d1⟩:=blk2 HNX.out
    clear hb4)
  |(go_at_call 24
    with_reducible refine (SH.out _ HB.out).mono ?_
    rintro e w4 ⟨rfl,hb4⟩
    have HNX:=LH (HNX.out.call hb4)
    have HCX:=LH (HCX.out.call hb4)
    have HB:=LH (zA0 HB.out hb4)
    clear d0 d1 
    obtain ⟨d0,d1⟩:=blk2 HNX.out
    clear hb4)
  |(refine zD9 rfl 34 (.tmp 3) rfl (w.heap.size+1) rfl _ _ HCX.out _ Tryz.underlying34 rfl (by kernel_rfl) ?_)
  |(go_at_call 12
    with_reducible refine (SL.out _).mono ?_
    rintro e w4 ⟨rfl,hb4⟩
    have HNX:=LH (HNX.out.call hb4)
    have HCX:=LH (HCX.out.call hb4)
    have HB:=LH (zA0 HB.out hb4)
    clear d0 d1 
    obtain ⟨d0,d1⟩:=blk2 HNX.out
    clear hb4))
  go_ret
  exact ⟨rfl,HB.out⟩
 rw [zA1 hl] at SL
 have hzz:=hvy_zz hh
 have SV:Hid (∀w',Below w.heap.size w w'→Calls Tryz.prog 28 #[.agg #[.slice NA n nc0,.slice LA m lc0]] w' fun e w''=>e= .returned (.bool (boolOf (netP D n K m)))∧Below w'.heap.size w' w''):=fun w' hb=>zD6 NA LA n nc0 m lc0 D K hzz.sz w' (zA9 HD.out hb) (zA8 HK.out hb)
 by_cases hp:netP D n K m
 case neg=>
  rw [zA1 hp] at SV
  clear hh hl hp hzz
  go_wp2_with (first
  |(go_at_call 10
    with_reducible refine (zP8 _).mono ?_
    rintro e w4 ⟨rfl,hb4⟩
    have HNX:=LH (HNX.out.call hb4)
    have HCX:=LH (HCX.out.call hb4)
    have HB:=LH (zA0 HB.out hb4)
    clear d0 d1 
    obtain ⟨d0,d1⟩:=blk2 HNX.out
    clear hb4)
  |(go_at_call 24
    with_reducible refine (SH.out _ HB.out).mono ?_
    rintro e w4 ⟨rfl,hb4⟩
    have HNX:=LH (HNX.out.call hb4)
    have HCX:=LH (HCX.out.call hb4)
    have HB:=LH (zA0 HB.out hb4)
    clear d0 d1 
    obtain ⟨d0,d1⟩:=blk2 HNX.out
    clear hb4)
  |(refine zD9 rfl 34 (.tmp 3) rfl (w.heap.size+1) rfl _ _ HCX.out _ Tryz.underlying34 rfl (by kernel_rfl) ?_)
  |(go_at_call 12
    with_reducible refine (SL.out _).mono ?_
    rintro e w4 ⟨rfl,hb4⟩
    have HNX:=LH (HNX.out.call hb4)
    have HCX:=LH (HCX.out.call hb4)
    have HB:=LH (zA0 HB.out hb4)
    clear d0 d1 
    obtain ⟨d0,d1⟩:=blk2 HNX.out
    clear hb4)
  |(go_at_call 28
    with_reducible refine (SV.out _ HB.out).mono ?_
    rintro e w4 ⟨rfl,hb4⟩
    have HNX:=LH (HNX.out.call hb4)
    have HCX:=LH (HCX.out.call hb4)
    have HB:=LH (zA0 HB.out hb4)
    clear d0 d1 
    obtain ⟨d0,d1⟩:=blk2 HNX.out
    clear hb4))
  go_ret
  exact ⟨rfl,HB.out⟩
 rw [zA2 hp] at SV
 have hv:=VS.of hp
 have hzx:ZN (zA7 C 0):=ln_z fun h=>hl (.inl h)
 have hzl:ZL (zA6 E 0):=ll_z fun h=>hl (.inr h)
 have HVS:=LH hv
 obtain ⟨n2,hn2⟩:∃k,(ApN (recN D n) (recL K m) (chrR kd C 0 E 0)).length=k:=⟨_,rfl⟩
 obtain ⟨m2,hm2⟩:∃k,(ApL (recN D n) (recL K m) (chrR kd C 0 E 0)).length=k:=⟨_,rfl⟩
 obtain ⟨er,her⟩:∃k,ApE (recN D n) (recL K m) (chrR kd C 0 E 0)=k:=⟨_,rfl⟩
 obtain ⟨R1,hR1⟩:∃R,(if ApE (recN D n) (recL K m) (chrR kd C 0 E 0)=0 then undC (recN D n) (recL K m) (chrR kd C 0 E 0) else ⟨0,zNd,zLk⟩)=R:=⟨_,rfl⟩
 have hb2:n2≤2000∧m2≤2000:=by
  rw [←hn2,←hm2]
  unfold ApN ApL
  have h1:=hvy_not hh
  have a:=len_opN (N:=recN D n) (c:=chrR kd C 0 E 0)
  have b:=len_opL (N:=recL K m) (c:=chrR kd C 0 E 0)
  rw [zA3] at a
  rw [zA4] at b
  split
  ·omega
  ·simp
 have SC:Hid (∀w',Below w.heap.size w w'→Calls Tryz.prog 35 #[.agg #[.slice NA n nc0,.slice LA m lc0]] w' fun e w''=>∃(X:Nds) (Y:Lks) (A B:Option Addr) (c d:Nat),e= .returned (.agg #[.slice A n c,.slice B m d])∧recN X n=recN D n∧recL Y m=recL K m∧NdIn w'' A n X∧LkIn w'' B m Y∧Below w'.heap.size w' w''):=fun w' hb=>by
  refine (zK0 NA LA n nc0 m lc0 D K w' hzz.n2 hzz.m2 hzz.sn hzz.cn (zA9 HD.out hb) (zA8 HK.out hb)).mono ?_
  rintro e w'' ⟨u,rfl,hq⟩
  obtain ⟨X,Y,A,B,c,d,rfl,r⟩:=cp_R hq (zA3 _ _) (zA4 _ _) hzz.n2 hzz.m2
  exact ⟨X,Y,A,B,c,d,rfl,r⟩
 have SA:Hid (∀w',Below w.heap.size w w'→Calls Tryz.prog 31 #[.agg #[.slice NA n nc0,.slice LA m lc0],.agg (chA kd C 0 E 0)] w' (ApR (ApN (recN D n) (recL K m) (chrR kd C 0 E 0)) (ApL (recN D n) (recL K m) (chrR kd C 0 E 0)) n2 m2 er w')):=fun w' hb=>(zG0 NA LA n nc0 m lc0 0 0 kd D C K E w' hzz hzx hzl (zA9 HD.out hb) (zA8 HK.out hb) (HTx.out.below (nl _) hb) (HTl.out.below (nl _) hb)).mono fun e w'' h=>apl_R h rfl rfl her hn2 hm2 hb2.1 hb2.2
 have SU:Hid (∀w',Below w.heap.size w w'→Calls Tryz.prog 33 #[.agg #[.slice NA n nc0,.slice LA m lc0],.agg (chA kd C 0 E 0)] w' (UnR R1 er w')):=fun w' hb=>(sc_Undo NA LA n nc0 m lc0 0 0 kd D C K E w' hzz hzx hzl (zA9 HD.out hb) (zA8 HK.out hb) (HTx.out.below (nl _) hb) (HTl.out.below (nl _) hb)).mono fun e w'' h=>und_R h her hR1
 have HZ:=LH hzz
 have HZX:=LH (And.intro hzx hzl)
 have HER:=LH her
 have HR1:=LH hR1
 have HN2:=LH (And.intro hn2 hm2)
 have HHV:=LH hh
 have HLG:=LH hl
 have te:(er !=er)=false:=by simp
 clear hh hl hp hzz hv hzx hzl hn2 hm2 her hR1 hb2
 go_upto_region 5 with (first
  |(go_at_call 10
    with_reducible refine (zP8 _).mono ?_
    rintro e w4 ⟨rfl,hb4⟩
    have HNX:=LH (HNX.out.call hb4)
    have HCX:=LH (HCX.out.call hb4)
    have HB:=LH (zA0 HB.out hb4)
    clear d0 d1 
    obtain ⟨d0,d1⟩:=blk2 HNX.out
    clear hb4)
  |(go_at_call 24
    with_reducible refine (SH.out _ HB.out).mono ?_
    rintro e w4 ⟨rfl,hb4⟩
    have HNX:=LH (HNX.out.call hb4)
    have HCX:=LH (HCX.out.call hb4)
    have HB:=LH (zA0 HB.out hb4)
    clear d0 d1 
    obtain ⟨d0,d1⟩:=blk2 HNX.out
    clear hb4)
  |(refine zD9 rfl 34 (.tmp 3) rfl (w.heap.size+1) rfl _ _ HCX.out _ Tryz.underlying34 rfl (by kernel_rfl) ?_)
  |(go_at_call 12
    with_reducible refine (SL.out _).mono ?_
    rintro e w4 ⟨rfl,hb4⟩
    have HNX:=LH (HNX.out.call hb4)
    have HCX:=LH (HCX.out.call hb4)
    have HB:=LH (zA0 HB.out hb4)
    clear d0 d1 
    obtain ⟨d0,d1⟩:=blk2 HNX.out
    clear hb4)
  |(go_at_call 28
    with_reducible refine (SV.out _ HB.out).mono ?_
    rintro e w4 ⟨rfl,hb4⟩
    have HNX:=LH (HNX.out.call hb4)
    have HCX:=LH (HCX.out.call hb4)
    have HB:=LH (zA0 HB.out hb4)
    clear d0 d1 
    obtain ⟨d0,d1⟩:=blk2 HNX.out
    clear hb4))
 go_upto_region 6 with (first
  |(go_at_call 35
    with_reducible refine (SC.out _ HB.out).mono ?_
    rintro e w4 ⟨OX,OY,OA,OB,Oc,Od,rfl,r1,r2,h1,h2,hb4⟩
    have Or:=LH (And.intro r1 r2)
    have On:=LH (And.intro h1 h2)
    have HNX:=LH (HNX.out.call hb4)
    have HCX:=LH (HCX.out.call hb4)
    have HB:=LH (zA0 HB.out hb4)
    clear d0 d1 
    obtain ⟨d0,d1⟩:=blk2 HNX.out
    clear hb4 r1 r2 h1 h2))
 have hal:Below w4.heap.size w4 (w4.alloc (Obj.cells #[.slice OA n Oc,.slice OB m Od] 52)):=(bR _ w4).alloc (nl _) _
 have Ob:Hid (Blk (w4.alloc (Obj.cells #[.slice OA n Oc,.slice OB m Od] 52)) w4.heap.size 52 #[.slice OA n Oc,.slice OB m Od]):=Blk.new _ _ _
 have On:=LH (And.intro (On.out.1.below (nl _) hal) (On.out.2.below (nl _) hal))
 have HNX:=LH (HNX.out.call hal)
 have HCX:=LH (HCX.out.call hal)
 have HB:=LH (zA0 HB.out hal)
 clear hal d0 d1 
 generalize w4.alloc (Obj.cells #[.slice OA n Oc,.slice OB m Od] 52)=w5 at HNX HCX HB On Ob⊢
 generalize w4.heap.size=Og at Ob⊢
 obtain ⟨d0,d1⟩:=blk2 HNX.out
 obtain ⟨o0_,o1_⟩:=blk2 Ob.out
 go_upto_region 7 with (first
  |(refine wpList_load_row rfl 34 (.tmp 3) rfl _ rfl _ _ (0,0) _ HCX.out Tryz.underlying34 rfl (by kernel_rfl) ?_)
  |(go_at_call 31
    with_reducible refine (SA.out _ HB.out).mono ?_
    rintro e w4 ⟨PX,PY,PA,PB,Pc,Pd,rfl,r1,r2,h1,h2,hb4⟩
    have Pr:=LH (And.intro r1 r2)
    have Pn:=LH (And.intro h1 h2)
    have HNX:=LH (HNX.out.call hb4)
    have HCX:=LH (HCX.out.call hb4)
    have HB:=LH (zA0 HB.out hb4)
    have On:=LH (And.intro (On.out.1.below (nl _) hb4) (On.out.2.below (nl _) hb4))
    have Ob:=LH (Ob.out.call hb4)
    clear d0 d1 o0_ o1_
    obtain ⟨d0,d1⟩:=blk2 HNX.out
    obtain ⟨o0_,o1_⟩:=blk2 Ob.out
    clear hb4 r1 r2 h1 h2))
 have hal:Below w4.heap.size w4 (w4.alloc (Obj.cells #[.slice PA n2 Pc,.slice PB m2 Pd] 52)):=(bR _ w4).alloc (nl _) _
 have Pb:Hid (Blk (w4.alloc (Obj.cells #[.slice PA n2 Pc,.slice PB m2 Pd] 52)) w4.heap.size 52 #[.slice PA n2 Pc,.slice PB m2 Pd]):=Blk.new _ _ _
 have Pn:=LH (And.intro (Pn.out.1.below (nl _) hal) (Pn.out.2.below (nl _) hal))
 have HNX:=LH (HNX.out.call hal)
 have HCX:=LH (HCX.out.call hal)
 have HB:=LH (zA0 HB.out hal)
 have On:=LH (And.intro (On.out.1.below (nl _) hal) (On.out.2.below (nl _) hal))
 have Ob:=LH (Ob.out.call hal)
 clear hal d0 d1 o0_ o1_
 generalize w4.alloc (Obj.cells #[.slice PA n2 Pc,.slice PB m2 Pd] 52)=w6 at HNX HCX HB On Ob Pn Pb⊢
 generalize w4.heap.size=Pg at Pb⊢
 obtain ⟨d0,d1⟩:=blk2 HNX.out
 obtain ⟨o0_,o1_⟩:=blk2 Ob.out
 obtain ⟨p0_,p1_⟩:=blk2 Pb.out
 go_upto_region 8 with (first
  |(refine wpList_load_row rfl 34 (.tmp 3) rfl _ rfl _ _ (0,0) _ HCX.out Tryz.underlying34 rfl (by kernel_rfl) ?_)
  |(refine wpList_store_row rfl 34 (.tmp 8) (.tmp 41) rfl w4.heap.size (chA Uk UX Ui UY Uj) rfl rfl _ _ (Blk.new w4 _ _) (by kernel_rfl) rfl (by kernel_rfl) ?_)
  |(go_at_call 33
    with_reducible refine (SU.out _ HB.out).mono ?_
    rintro e w4 ⟨Uk,UX,UY,Ui,Uj,rfl,r1,h1,h2,hb4⟩
    have Ur:=LH r1
    have Un:=LH (And.intro h1 h2)
    have HNX:=LH (HNX.out.call hb4)
    have HCX:=LH (HCX.out.call hb4)
    have HB:=LH (zA0 HB.out hb4)
    have On:=LH (And.intro (On.out.1.below (nl _) hb4) (On.out.2.below (nl _) hb4))
    have Ob:=LH (Ob.out.call hb4)
    have Pn:=LH (And.intro (Pn.out.1.below (nl _) hb4) (Pn.out.2.below (nl _) hb4))
    have Pb:=LH (Pb.out.call hb4)
    clear d0 d1 o0_ o1_ p0_ p1_
    obtain ⟨d0,d1⟩:=blk2 HNX.out
    obtain ⟨o0_,o1_⟩:=blk2 Ob.out
    obtain ⟨p0_,p1_⟩:=blk2 Pb.out
    clear hb4 r1 h1 h2))
 have hal:Below w4.heap.size w4 ((w4.alloc (Obj.cells cZc 34)).setRow w4.heap.size (chA Uk UX Ui UY Uj)):=zA5 ((bR _ w4).alloc (nl _) _) (Blk.new w4 34 _) (nl _)
 have Ub:Hid (Blk ((w4.alloc (Obj.cells cZc 34)).setRow w4.heap.size (chA Uk UX Ui UY Uj)) w4.heap.size 34 (chA Uk UX Ui UY Uj)):=(Blk.new w4 34 _).setRow
 have Un:=LH (And.intro (Un.out.1.below (nl _) hal) (Un.out.2.below (nl _) hal))
 have HNX:=LH (HNX.out.call hal)
 have HCX:=LH (HCX.out.call hal)
 have HB:=LH (zA0 HB.out hal)
 have On:=LH (And.intro (On.out.1.below (nl _) hal) (On.out.2.below (nl _) hal))
 have Ob:=LH (Ob.out.call hal)
 have Pn:=LH (And.intro (Pn.out.1.below (nl _) hal) (Pn.out.2.below (nl _) hal))
 have Pb:=LH (Pb.out.call hal)
 clear hal d0 d1 o0_ o1_ p0_ p1_
 generalize (w4.alloc (Obj.cells cZc 34)).setRow w4.heap.size (chA Uk UX Ui UY Uj)=w7 at HNX HCX HB On Ob Pn Pb Un Ub⊢
 generalize w4.heap.size=Ug at Ub⊢
 obtain ⟨d0,d1⟩:=blk2 HNX.out
 obtain ⟨o0_,o1_⟩:=blk2 Ob.out
 obtain ⟨p0_,p1_⟩:=blk2 Pb.out
 have SS:Hid (∀w',Below w7.heap.size w7 w'→Calls Tryz.prog 27 #[.agg #[.slice NA n nc0,.slice LA m lc0],.agg #[.slice OA n Oc,.slice OB m Od]] w' fun e w''=>e= .returned (.bool true)∧Below w'.heap.size w' w''):=fun w' hb=>by
  have h:=rsameNet NA LA OA OB n nc0 m lc0 n Oc m Od D OX K OY w' HZ.out.n2 HZ.out.m2 (zA9 HD.out (zA0 HB.out hb)) (zA8 HK.out (zA0 HB.out hb)) (zA9 On.out.1 hb) (zA8 On.out.2 hb)
  rw [zA2 (show netS D n K m OX n OY m from ⟨Or.out.1.symm,Or.out.2.symm⟩)] at h
  exact h
 by_cases he:er=0
 case neg=>
  have t0:(er !=0)=true:=by simpa using he
  have h0:=ap_of1 (show ApE (recN D n) (recL K m) (chrR kd C 0 E 0)≠0 by rw [HER.out];exact he)
  obtain rfl:n2=0:=by rw [←HN2.out.1,h0.1];rfl
  obtain rfl:m2=0:=by rw [←HN2.out.2,h0.2];rfl
  clear h0 he
  go_wp2_with (first
  |(go_at_call 27
    with_reducible refine (SS.out _ (bR w7.heap.size w7)).mono ?_
    rintro e w4 ⟨rfl,hb4⟩
    have HNX:=LH (HNX.out.call hb4)
    have HCX:=LH (HCX.out.call hb4)
    have HB:=LH (zA0 HB.out hb4)
    have On:=LH (And.intro (On.out.1.below (nl _) hb4) (On.out.2.below (nl _) hb4))
    have Ob:=LH (Ob.out.call hb4)
    have Pn:=LH (And.intro (Pn.out.1.below (nl _) hb4) (Pn.out.2.below (nl _) hb4))
    have Pb:=LH (Pb.out.call hb4)
    have Un:=LH (And.intro (Un.out.1.below (nl _) hb4) (Un.out.2.below (nl _) hb4))
    have Ub:=LH (Ub.out.call hb4)
    clear d0 d1 o0_ o1_ p0_ p1_
    obtain ⟨d0,d1⟩:=blk2 HNX.out
    obtain ⟨o0_,o1_⟩:=blk2 Ob.out
    obtain ⟨p0_,p1_⟩:=blk2 Pb.out
    clear hb4))
  go_ret
  exact ⟨rfl,HB.out⟩
 subst he
 obtain ⟨v1,e1,v2,k1,e2,v3,k2⟩:=undone_all HVS.out HER.out
 have q2:=ap_of0 HER.out
 have hR:R1=undC (recN D n) (recL K m) (chrR kd C 0 E 0):=by rw [←HR1.out,if_pos HER.out]
 have hz1:=und_z (c:=chrR kd C 0 E 0) HVS.out HZX.out.1 HZX.out.2
 have HPX:Hid (recN PX n2=opN (recN D n) (chrR kd C 0 E 0)∧recL PY m2=opL (recL K m) (chrR kd C 0 E 0)):=⟨Pr.out.1.trans q2.1,Pr.out.2.trans q2.2⟩
 have HUX:Hid (chrR Uk UX Ui UY Uj=undC (recN D n) (recL K m) (chrR kd C 0 E 0)):=Ur.out.trans hR
 have V1:Hid (VS (recN PX n2) (recL PY m2)):=by show VS _ _;rw [HPX.out.1,HPX.out.2];exact v1
 have ZU:Hid (ZN (zA7 UX Ui)∧ZL (zA6 UY Uj)):=by
  have a:=hz1.1;have b:=hz1.2
  rw [←HUX.out] at a b
  exact ⟨a,b⟩
 have E1:Hid (ApE (recN PX n2) (recL PY m2) (chrR Uk UX Ui UY Uj)=0):=by show _=_;rw [HPX.out.1,HPX.out.2,HUX.out];exact e1
 have V2:Hid (VS (opN (recN PX n2) (chrR Uk UX Ui UY Uj)) (opL (recL PY m2) (chrR Uk UX Ui UY Uj))):=by show VS _ _;rw [HPX.out.1,HPX.out.2,HUX.out];exact v2
 have K1:Hid (alkP (opN (recN PX n2) (chrR Uk UX Ui UY Uj)) (opL (recL PY m2) (chrR Uk UX Ui UY Uj)) (recN D n) (recL K m)):=by show alkP _ _ _ _;rw [HPX.out.1,HPX.out.2,HUX.out];exact k1
 have E2:Hid (ApE (opN (recN PX n2) (chrR Uk UX Ui UY Uj)) (opL (recL PY m2) (chrR Uk UX Ui UY Uj)) (undC (recN PX n2) (recL PY m2) (chrR Uk UX Ui UY Uj))=0):=by show _=_;rw [HPX.out.1,HPX.out.2,HUX.out];exact e2
 have V3:Hid (VS (opN (opN (recN PX n2) (chrR Uk UX Ui UY Uj)) (undC (recN PX n2) (recL PY m2) (chrR Uk UX Ui UY Uj))) (opL (opL (recL PY m2) (chrR Uk UX Ui UY Uj)) (undC (recN PX n2) (recL PY m2) (chrR Uk UX Ui UY Uj)))):=by show VS _ _;rw [HPX.out.1,HPX.out.2,HUX.out];exact v3
 have K2:Hid (alkP (opN (opN (recN PX n2) (chrR Uk UX Ui UY Uj)) (undC (recN PX n2) (recL PY m2) (chrR Uk UX Ui UY Uj))) (opL (opL (recL PY m2) (chrR Uk UX Ui UY Uj)) (undC (recN PX n2) (recL PY m2) (chrR Uk UX Ui UY Uj))) (recN PX n2) (recL PY m2)):=by show alkP _ _ _ _;rw [HPX.out.1,HPX.out.2,HUX.out];exact k2
 have HNH:Hid (n2≤12→m2≤20→¬hvyP PX n2 PY m2):=fun a b h=>by
  have h1:=(hvy_rec PX n2 PY m2).1 h
  rw [HPX.out.1,HPX.out.2] at h1
  have l1:(opN (recN D n) (chrR kd C 0 E 0)).length=n2:=by rw [←HPX.out.1,zA3]
  have l2:(opL (recL K m) (chrR kd C 0 E 0)).length=m2:=by rw [←HPX.out.2,zA4]
  exact hvy_op (fun q=>HHV.out ((hvy_rec D n K m).2 q)) (fun q=>HLG.out (.inl ((lnR_of C 0).1 q))) (fun q=>HLG.out (.inr ((llR_of E 0).1 q))) (by omega) (by omega) h1
 clear v1 e1 v2 k1 e2 v3 k2 q2 hR hz1 SA SU SC SV SH SL HPX HUX HER HR1 HHV HLG te
 have te:((0:Int)!=0)=false:=by decide
 go_upto_region 12 with (first
  |(go_at_call 27
    with_reducible refine (SS.out _ (bR w7.heap.size w7)).mono ?_
    rintro e w4 ⟨rfl,hb4⟩
    have HNX:=LH (HNX.out.call hb4)
    have HCX:=LH (HCX.out.call hb4)
    have HB:=LH (zA0 HB.out hb4)
    have On:=LH (And.intro (On.out.1.below (nl _) hb4) (On.out.2.below (nl _) hb4))
    have Ob:=LH (Ob.out.call hb4)
    have Pn:=LH (And.intro (Pn.out.1.below (nl _) hb4) (Pn.out.2.below (nl _) hb4))
    have Pb:=LH (Pb.out.call hb4)
    have Un:=LH (And.intro (Un.out.1.below (nl _) hb4) (Un.out.2.below (nl _) hb4))
    have Ub:=LH (Ub.out.call hb4)
    clear d0 d1 o0_ o1_ p0_ p1_
    obtain ⟨d0,d1⟩:=blk2 HNX.out
    obtain ⟨o0_,o1_⟩:=blk2 Ob.out
    obtain ⟨p0_,p1_⟩:=blk2 Pb.out
    clear hb4))
 have SV2:Hid (∀w',Below w4.heap.size w4 w'→Calls Tryz.prog 28 #[.agg #[.slice PA n2 Pc,.slice PB m2 Pd]] w' fun e w''=>e= .returned (.bool true)∧Below w'.heap.size w' w''):=fun w' hb=>by
  have h:=zD6 PA PB n2 Pc m2 Pd PX PY V1.out.zz.sz w' (zA9 Pn.out.1 hb) (zA8 Pn.out.2 hb)
  rw [zA2 V1.out.to] at h
  exact h
 have SH2:Hid (∀w',Below w4.heap.size w4 w'→Calls Tryz.prog 24 #[.agg #[.slice PA n2 Pc,.slice PB m2 Pd]] w' fun e w''=>e= .returned (.bool (boolOf (hvyP PX n2 PY m2)))∧Below w'.heap.size w' w''):=fun w' hb=>sc_heavy PA PB n2 Pc m2 Pd PX PY w' (zA9 Pn.out.1 hb) (zA8 Pn.out.2 hb)
 have HW:=LH (bR w4.heap.size w4)
 go_cut [82] from 64 to 82 (fun z wx=>z= .bool false∧Hid (Below w4.heap.size w4 wx))
 case first=>
  by_cases hq:hvyP PX n2 PY m2
  ·rw [zA2 hq] at SH2
   by_cases g1:n2<12
   ·have g2:¬m2<20:=fun g=>HNH.out (by omega) (by omega) hq
    have t1:decide ((n2:Int)<12)=true:=dU (by omega)
    have t1':decide (n2<12)=true:=dU g1
    have t2:decide ((m2:Int)<20)=false:=dF (by omega)
    have t2':decide (m2<20)=false:=dF g2
    clear hq g1 g2
    go_wp2_with (first
       |(go_at_call 28
         with_reducible refine (SV2.out _ HW.out).mono ?_
         rintro e w4 ⟨rfl,hb4⟩
         have HW:=LH (zA0 HW.out hb4)
         clear p0_ p1_
         obtain ⟨p0_,p1_⟩:=blk2 (Pb.out.call HW.out)
         clear hb4)
       |(go_at_call 24
         with_reducible refine (SH2.out _ HW.out).mono ?_
         rintro e w4 ⟨rfl,hb4⟩
         have HW:=LH (zA0 HW.out hb4)
         clear p0_ p1_
         obtain ⟨p0_,p1_⟩:=blk2 (Pb.out.call HW.out)
         clear hb4))
    go_meet
    exact ⟨rfl,HW⟩
   ·have t1:decide ((n2:Int)<12)=false:=dF (by omega)
    have t1':decide (n2<12)=false:=dF g1
    clear hq g1
    go_wp2_with (first
       |(go_at_call 28
         with_reducible refine (SV2.out _ HW.out).mono ?_
         rintro e w4 ⟨rfl,hb4⟩
         have HW:=LH (zA0 HW.out hb4)
         clear p0_ p1_
         obtain ⟨p0_,p1_⟩:=blk2 (Pb.out.call HW.out)
         clear hb4)
       |(go_at_call 24
         with_reducible refine (SH2.out _ HW.out).mono ?_
         rintro e w4 ⟨rfl,hb4⟩
         have HW:=LH (zA0 HW.out hb4)
         clear p0_ p1_
         obtain ⟨p0_,p1_⟩:=blk2 (Pb.out.call HW.out)
         clear hb4))
    go_meet
    exact ⟨rfl,HW⟩
  ·rw [zA1 hq] at SH2
   clear hq
   go_wp2_with (first
       |(go_at_call 28
         with_reducible refine (SV2.out _ HW.out).mono ?_
         rintro e w4 ⟨rfl,hb4⟩
         have HW:=LH (zA0 HW.out hb4)
         clear p0_ p1_
         obtain ⟨p0_,p1_⟩:=blk2 (Pb.out.call HW.out)
         clear hb4)
       |(go_at_call 24
         with_reducible refine (SH2.out _ HW.out).mono ?_
         rintro e w4 ⟨rfl,hb4⟩
         have HW:=LH (zA0 HW.out hb4)
         clear p0_ p1_
         obtain ⟨p0_,p1_⟩:=blk2 (Pb.out.call HW.out)
         clear hb4))
   go_meet
   exact ⟨rfl,HW⟩
 case rest=>
 rename World=>w8
 obtain ⟨rfl,HW8⟩:=hcut
 have hb8:=HW8.out
 have HNX:=LH (HNX.out.call hb8)
 have HCX:=LH (HCX.out.call hb8)
 have HB:=LH (zA0 HB.out hb8)
 have On:=LH (And.intro (On.out.1.below (nl _) hb8) (On.out.2.below (nl _) hb8))
 have Ob:=LH (Ob.out.call hb8)
 have Pn:=LH (And.intro (Pn.out.1.below (nl _) hb8) (Pn.out.2.below (nl _) hb8))
 have Pb:=LH (Pb.out.call hb8)
 have Un:=LH (And.intro (Un.out.1.below (nl _) hb8) (Un.out.2.below (nl _) hb8))
 have Ub:=LH (Ub.out.call hb8)
 clear d0 d1 o0_ o1_ p0_ p1_
 obtain ⟨d0,d1⟩:=blk2 HNX.out
 obtain ⟨o0_,o1_⟩:=blk2 Ob.out
 obtain ⟨p0_,p1_⟩:=blk2 Pb.out
 clear hb8 HW HW8 SV2 SH2 SS
 obtain ⟨n4,hn4⟩:∃k,(opN (recN PX n2) (chrR Uk UX Ui UY Uj)).length=k:=⟨_,rfl⟩
 obtain ⟨m4,hm4⟩:∃k,(opL (recL PY m2) (chrR Uk UX Ui UY Uj)).length=k:=⟨_,rfl⟩
 have q4:=ap_of0 E1.out
 have SA2:Hid (∀w',Below w8.heap.size w8 w'→Calls Tryz.prog 31 #[.agg #[.slice PA n2 Pc,.slice PB m2 Pd],.agg (chA Uk UX Ui UY Uj)] w' (ApR (opN (recN PX n2) (chrR Uk UX Ui UY Uj)) (opL (recL PY m2) (chrR Uk UX Ui UY Uj)) n4 m4 0 w')):=fun w' hb=>(zG0 PA PB n2 Pc m2 Pd Ui Uj Uk PX UX PY UY w' V1.out.zz ZU.out.1 ZU.out.2 (zA9 Pn.out.1 hb) (zA8 Pn.out.2 hb) (Un.out.1.below (nl _) hb) (Un.out.2.below (nl _) hb)).mono fun e w'' h=>apl_R h q4.1 q4.2 E1.out hn4 hm4 (by have:=V2.out.n300;omega) (by have:=V2.out.l400;omega)
 have SU2:Hid (∀w',Below w8.heap.size w8 w'→Calls Tryz.prog 33 #[.agg #[.slice PA n2 Pc,.slice PB m2 Pd],.agg (chA Uk UX Ui UY Uj)] w' (UnR (undC (recN PX n2) (recL PY m2) (chrR Uk UX Ui UY Uj)) 0 w')):=fun w' hb=>(sc_Undo PA PB n2 Pc m2 Pd Ui Uj Uk PX UX PY UY w' V1.out.zz ZU.out.1 ZU.out.2 (zA9 Pn.out.1 hb) (zA8 Pn.out.2 hb) (Un.out.1.below (nl _) hb) (Un.out.2.below (nl _) hb)).mono fun e w'' h=>und_R h E1.out (if_pos E1.out)
 have HN4:=LH (And.intro hn4 hm4)
 have HB8:Hid (Below w8.heap.size w8 w8):=bR _ _
 clear hn4 hm4 q4
 go_upto_region 15 with (first
  |(refine wpList_load_row rfl 34 (.tmp 8) rfl _ rfl _ _ (0,0) _ Ub.out Tryz.underlying34 rfl (by kernel_rfl) ?_)
  |(go_at_call 31
    with_reducible refine (SA2.out _ HB8.out).mono ?_
    rintro e w4 ⟨QX,QY,QA,QB,Qc,Qd,rfl,r1,r2,h1,h2,hb4⟩
    have Qr:=LH (And.intro r1 r2)
    have Qn:=LH (And.intro h1 h2)
    have HNX:=LH (HNX.out.call hb4)
    have HCX:=LH (HCX.out.call hb4)
    have HB:=LH (zA0 HB.out hb4)
    have On:=LH (And.intro (On.out.1.below (nl _) hb4) (On.out.2.below (nl _) hb4))
    have Ob:=LH (Ob.out.call hb4)
    have Pn:=LH (And.intro (Pn.out.1.below (nl _) hb4) (Pn.out.2.below (nl _) hb4))
    have Pb:=LH (Pb.out.call hb4)
    have Un:=LH (And.intro (Un.out.1.below (nl _) hb4) (Un.out.2.below (nl _) hb4))
    have Ub:=LH (Ub.out.call hb4)
    clear d0 d1 o0_ o1_ p0_ p1_
    obtain ⟨d0,d1⟩:=blk2 HNX.out
    obtain ⟨o0_,o1_⟩:=blk2 Ob.out
    obtain ⟨p0_,p1_⟩:=blk2 Pb.out
    have HB8:=LH (zA0 HB8.out hb4)
    clear hb4 r1 r2 h1 h2))
 have hal:Below w4.heap.size w4 (w4.alloc (Obj.cells #[.slice QA n4 Qc,.slice QB m4 Qd] 52)):=(bR _ w4).alloc (nl _) _
 have Qb:Hid (Blk (w4.alloc (Obj.cells #[.slice QA n4 Qc,.slice QB m4 Qd] 52)) w4.heap.size 52 #[.slice QA n4 Qc,.slice QB m4 Qd]):=Blk.new _ _ _
 have Qn:=LH (And.intro (Qn.out.1.below (nl _) hal) (Qn.out.2.below (nl _) hal))
 have HNX:=LH (HNX.out.call hal)
 have HCX:=LH (HCX.out.call hal)
 have HB:=LH (zA0 HB.out hal)
 have On:=LH (And.intro (On.out.1.below (nl _) hal) (On.out.2.below (nl _) hal))
 have Ob:=LH (Ob.out.call hal)
 have Pn:=LH (And.intro (Pn.out.1.below (nl _) hal) (Pn.out.2.below (nl _) hal))
 have Pb:=LH (Pb.out.call hal)
 have Un:=LH (And.intro (Un.out.1.below (nl _) hal) (Un.out.2.below (nl _) hal))
 have Ub:=LH (Ub.out.call hal)
 have HB8:=LH (zA0 HB8.out hal)
 clear hal d0 d1 o0_ o1_ p0_ p1_
 generalize w4.alloc (Obj.cells #[.slice QA n4 Qc,.slice QB m4 Qd] 52)=w9 at HB8 HNX HCX HB On Ob Pn Pb Un Ub Qn Qb⊢
 generalize w4.heap.size=Qg at Qb⊢
 obtain ⟨d0,d1⟩:=blk2 HNX.out
 obtain ⟨o0_,o1_⟩:=blk2 Ob.out
 obtain ⟨p0_,p1_⟩:=blk2 Pb.out
 obtain ⟨q0_,q1_⟩:=blk2 Qb.out
 go_upto_region 16 with (first
  |(refine wpList_load_row rfl 34 (.tmp 8) rfl _ rfl _ _ (0,0) _ Ub.out Tryz.underlying34 rfl (by kernel_rfl) ?_)
  |(refine wpList_store_row rfl 34 (.tmp 12) (.tmp 93) rfl w4.heap.size (chA Vk VX Vi VY Vj) rfl rfl _ _ (Blk.new w4 _ _) (by kernel_rfl) rfl (by kernel_rfl) ?_)
  |(go_at_call 33
    with_reducible refine (SU2.out _ HB8.out).mono ?_
    rintro e w4 ⟨Vk,VX,VY,Vi,Vj,rfl,r1,h1,h2,hb4⟩
    have Vr:=LH r1
    have Vn:=LH (And.intro h1 h2)
    have HNX:=LH (HNX.out.call hb4)
    have HCX:=LH (HCX.out.call hb4)
    have HB:=LH (zA0 HB.out hb4)
    have On:=LH (And.intro (On.out.1.below (nl _) hb4) (On.out.2.below (nl _) hb4))
    have Ob:=LH (Ob.out.call hb4)
    have Pn:=LH (And.intro (Pn.out.1.below (nl _) hb4) (Pn.out.2.below (nl _) hb4))
    have Pb:=LH (Pb.out.call hb4)
    have Un:=LH (And.intro (Un.out.1.below (nl _) hb4) (Un.out.2.below (nl _) hb4))
    have Ub:=LH (Ub.out.call hb4)
    have Qn:=LH (And.intro (Qn.out.1.below (nl _) hb4) (Qn.out.2.below (nl _) hb4))
    have Qb:=LH (Qb.out.call hb4)
    clear d0 d1 o0_ o1_ p0_ p1_ q0_ q1_
    obtain ⟨d0,d1⟩:=blk2 HNX.out
    obtain ⟨o0_,o1_⟩:=blk2 Ob.out
    obtain ⟨p0_,p1_⟩:=blk2 Pb.out
    obtain ⟨q0_,q1_⟩:=blk2 Qb.out
    have HB8:=LH (zA0 HB8.out hb4)
    clear hb4 r1 h1 h2))
 have hal:Below w4.heap.size w4 ((w4.alloc (Obj.cells cZc 34)).setRow w4.heap.size (chA Vk VX Vi VY Vj)):=zA5 ((bR _ w4).alloc (nl _) _) (Blk.new w4 34 _) (nl _)
 have Vb:Hid (Blk ((w4.alloc (Obj.cells cZc 34)).setRow w4.heap.size (chA Vk VX Vi VY Vj)) w4.heap.size 34 (chA Vk VX Vi VY Vj)):=(Blk.new w4 34 _).setRow
 have Vn:=LH (And.intro (Vn.out.1.below (nl _) hal) (Vn.out.2.below (nl _) hal))
 have HNX:=LH (HNX.out.call hal)
 have HCX:=LH (HCX.out.call hal)
 have HB:=LH (zA0 HB.out hal)
 have On:=LH (And.intro (On.out.1.below (nl _) hal) (On.out.2.below (nl _) hal))
 have Ob:=LH (Ob.out.call hal)
 have Pn:=LH (And.intro (Pn.out.1.below (nl _) hal) (Pn.out.2.below (nl _) hal))
 have Pb:=LH (Pb.out.call hal)
 have Un:=LH (And.intro (Un.out.1.below (nl _) hal) (Un.out.2.below (nl _) hal))
 have Ub:=LH (Ub.out.call hal)
 have Qn:=LH (And.intro (Qn.out.1.below (nl _) hal) (Qn.out.2.below (nl _) hal))
 have Qb:=LH (Qb.out.call hal)
 have HB8:=LH (zA0 HB8.out hal)
 clear hal d0 d1 o0_ o1_ p0_ p1_ q0_ q1_
 generalize (w4.alloc (Obj.cells cZc 34)).setRow w4.heap.size (chA Vk VX Vi VY Vj)=w10 at HB8 HNX HCX HB On Ob Pn Pb Un Ub Qn Qb Vn Vb⊢
 generalize w4.heap.size=Vg at Vb⊢
 obtain ⟨d0,d1⟩:=blk2 HNX.out
 obtain ⟨o0_,o1_⟩:=blk2 Ob.out
 obtain ⟨p0_,p1_⟩:=blk2 Pb.out
 obtain ⟨q0_,q1_⟩:=blk2 Qb.out
 have VQ:Hid (VS (recN QX n4) (recL QY m4)):=by show VS _ _;rw [Qr.out.1,Qr.out.2];exact V2.out
 have SV3:Hid (∀w',Below w10.heap.size w10 w'→Calls Tryz.prog 28 #[.agg #[.slice QA n4 Qc,.slice QB m4 Qd]] w' fun e w''=>e= .returned (.bool true)∧Below w'.heap.size w' w''):=fun w' hb=>by
  have h:=zD6 QA QB n4 Qc m4 Qd QX QY VQ.out.zz.sz w' (zA9 Qn.out.1 hb) (zA8 Qn.out.2 hb)
  rw [zA2 VQ.out.to] at h
  exact h
 have SK3:Hid (∀w',Below w10.heap.size w10 w'→Calls Tryz.prog 30 #[.agg #[.slice QA n4 Qc,.slice QB m4 Qd],.agg #[.slice NA n nc0,.slice LA m lc0]] w' fun e w''=>e= .returned (.bool true)∧Below w'.heap.size w' w''):=fun w' hb=>by
  have h:=r_alike QA QB NA LA n4 Qc m4 Qd n nc0 m lc0 QX D QY K w' VQ.out HVS.out (zA9 Qn.out.1 hb) (zA8 Qn.out.2 hb) (zA9 HD.out (zA0 HB.out hb)) (zA8 HK.out (zA0 HB.out hb))
  rw [Qr.out.1,Qr.out.2,zA2 K1.out] at h
  exact h
 have HW:Hid (Below w10.heap.size w10 w10):=bR _ _
 go_upto_region 18 with (first
  |(go_at_call 28
    with_reducible refine (SV3.out _ HW.out).mono ?_
    rintro e w4 ⟨rfl,hb4⟩
    have HNX:=LH (HNX.out.call hb4)
    have HCX:=LH (HCX.out.call hb4)
    have HB:=LH (zA0 HB.out hb4)
    have On:=LH (And.intro (On.out.1.below (nl _) hb4) (On.out.2.below (nl _) hb4))
    have Ob:=LH (Ob.out.call hb4)
    have Pn:=LH (And.intro (Pn.out.1.below (nl _) hb4) (Pn.out.2.below (nl _) hb4))
    have Pb:=LH (Pb.out.call hb4)
    have Un:=LH (And.intro (Un.out.1.below (nl _) hb4) (Un.out.2.below (nl _) hb4))
    have Ub:=LH (Ub.out.call hb4)
    have Qn:=LH (And.intro (Qn.out.1.below (nl _) hb4) (Qn.out.2.below (nl _) hb4))
    have Qb:=LH (Qb.out.call hb4)
    have Vn:=LH (And.intro (Vn.out.1.below (nl _) hb4) (Vn.out.2.below (nl _) hb4))
    have Vb:=LH (Vb.out.call hb4)
    clear d0 d1 o0_ o1_ p0_ p1_ q0_ q1_
    obtain ⟨d0,d1⟩:=blk2 HNX.out
    obtain ⟨o0_,o1_⟩:=blk2 Ob.out
    obtain ⟨p0_,p1_⟩:=blk2 Pb.out
    obtain ⟨q0_,q1_⟩:=blk2 Qb.out
    have HW:=LH (zA0 HW.out hb4)
    clear hb4)
  |(go_at_call 30
    with_reducible refine (SK3.out _ HW.out).mono ?_
    rintro e w4 ⟨rfl,hb4⟩
    have HNX:=LH (HNX.out.call hb4)
    have HCX:=LH (HCX.out.call hb4)
    have HB:=LH (zA0 HB.out hb4)
    have On:=LH (And.intro (On.out.1.below (nl _) hb4) (On.out.2.below (nl _) hb4))
    have Ob:=LH (Ob.out.call hb4)
    have Pn:=LH (And.intro (Pn.out.1.below (nl _) hb4) (Pn.out.2.below (nl _) hb4))
    have Pb:=LH (Pb.out.call hb4)
    have Un:=LH (And.intro (Un.out.1.below (nl _) hb4) (Un.out.2.below (nl _) hb4))
    have Ub:=LH (Ub.out.call hb4)
    have Qn:=LH (And.intro (Qn.out.1.below (nl _) hb4) (Qn.out.2.below (nl _) hb4))
    have Qb:=LH (Qb.out.call hb4)
    have Vn:=LH (And.intro (Vn.out.1.below (nl _) hb4) (Vn.out.2.below (nl _) hb4))
    have Vb:=LH (Vb.out.call hb4)
    clear d0 d1 o0_ o1_ p0_ p1_ q0_ q1_
    obtain ⟨d0,d1⟩:=blk2 HNX.out
    obtain ⟨o0_,o1_⟩:=blk2 Ob.out
    obtain ⟨p0_,p1_⟩:=blk2 Pb.out
    obtain ⟨q0_,q1_⟩:=blk2 Qb.out
    have HW:=LH (zA0 HW.out hb4)
    clear hb4))
 obtain ⟨n6,hn6⟩:∃k,(opN (opN (recN PX n2) (chrR Uk UX Ui UY Uj)) (undC (recN PX n2) (recL PY m2) (chrR Uk UX Ui UY Uj))).length=k:=⟨_,rfl⟩
 obtain ⟨m6,hm6⟩:∃k,(opL (opL (recL PY m2) (chrR Uk UX Ui UY Uj)) (undC (recN PX n2) (recL PY m2) (chrR Uk UX Ui UY Uj))).length=k:=⟨_,rfl⟩
 have hz3:=und_z (c:=chrR Uk UX Ui UY Uj) V1.out ZU.out.1 ZU.out.2
 have E3:Hid (ApE (recN QX n4) (recL QY m4) (chrR Vk VX Vi VY Vj)=0):=by show _=_;rw [Qr.out.1,Qr.out.2,Vr.out];exact E2.out
 have ZV:Hid (ZN (zA7 VX Vi)∧ZL (zA6 VY Vj)):=by
  have a:=hz3.1;have b:=hz3.2
  rw [←Vr.out] at a b
  exact ⟨a,b⟩
 have q6:ApN (recN QX n4) (recL QY m4) (chrR Vk VX Vi VY Vj)=opN (opN (recN PX n2) (chrR Uk UX Ui UY Uj)) (undC (recN PX n2) (recL PY m2) (chrR Uk UX Ui UY Uj))∧ApL (recN QX n4) (recL QY m4) (chrR Vk VX Vi VY Vj)=opL (opL (recL PY m2) (chrR Uk UX Ui UY Uj)) (undC (recN PX n2) (recL PY m2) (chrR Uk UX Ui UY Uj)):=by
  have h:=ap_of0 E3.out
  rw [h.1,h.2,Qr.out.1,Qr.out.2,Vr.out]
  exact ⟨rfl,rfl⟩
 have SA3:Hid (Calls Tryz.prog 31 #[.agg #[.slice QA n4 Qc,.slice QB m4 Qd],.agg (chA Vk VX Vi VY Vj)] w4 (ApR (opN (opN (recN PX n2) (chrR Uk UX Ui UY Uj)) (undC (recN PX n2) (recL PY m2) (chrR Uk UX Ui UY Uj))) (opL (opL (recL PY m2) (chrR Uk UX Ui UY Uj)) (undC (recN PX n2) (recL PY m2) (chrR Uk UX Ui UY Uj))) n6 m6 0 w4)):=(zG0 QA QB n4 Qc m4 Qd Vi Vj Vk QX VX QY VY w4 VQ.out.zz ZV.out.1 ZV.out.2 Qn.out.1 Qn.out.2 Vn.out.1 Vn.out.2).mono fun e w'' h=>apl_R h q6.1 q6.2 E3.out hn6 hm6 (by have:=V3.out.n300;omega) (by have:=V3.out.l400;omega)
 clear hn6 hm6 q6 hz3
 go_upto_region 19 with (first
  |(refine wpList_load_row rfl 34 (.tmp 12) rfl _ rfl _ _ (0,0) _ Vb.out Tryz.underlying34 rfl (by kernel_rfl) ?_)
  |(go_at_call 31
    with_reducible refine (SA3.out).mono ?_
    rintro e w4 ⟨ZX,ZY,ZA,ZB,Zc,Zd,rfl,r1,r2,h1,h2,hb4⟩
    have Zr:=LH (And.intro r1 r2)
    have Zn:=LH (And.intro h1 h2)
    have HNX:=LH (HNX.out.call hb4)
    have HCX:=LH (HCX.out.call hb4)
    have HB:=LH (zA0 HB.out hb4)
    have On:=LH (And.intro (On.out.1.below (nl _) hb4) (On.out.2.below (nl _) hb4))
    have Ob:=LH (Ob.out.call hb4)
    have Pn:=LH (And.intro (Pn.out.1.below (nl _) hb4) (Pn.out.2.below (nl _) hb4))
    have Pb:=LH (Pb.out.call hb4)
    have Un:=LH (And.intro (Un.out.1.below (nl _) hb4) (Un.out.2.below (nl _) hb4))
    have Ub:=LH (Ub.out.call hb4)
    have Qn:=LH (And.intro (Qn.out.1.below (nl _) hb4) (Qn.out.2.below (nl _) hb4))
    have Qb:=LH (Qb.out.call hb4)
    have Vn:=LH (And.intro (Vn.out.1.below (nl _) hb4) (Vn.out.2.below (nl _) hb4))
    have Vb:=LH (Vb.out.call hb4)
    clear d0 d1 o0_ o1_ p0_ p1_ q0_ q1_
    obtain ⟨d0,d1⟩:=blk2 HNX.out
    obtain ⟨o0_,o1_⟩:=blk2 Ob.out
    obtain ⟨p0_,p1_⟩:=blk2 Pb.out
    obtain ⟨q0_,q1_⟩:=blk2 Qb.out
    clear hb4 r1 r2 h1 h2))
 have hal:Below w4.heap.size w4 (w4.alloc (Obj.cells #[.slice ZA n6 Zc,.slice ZB m6 Zd] 52)):=(bR _ w4).alloc (nl _) _
 have Zb:Hid (Blk (w4.alloc (Obj.cells #[.slice ZA n6 Zc,.slice ZB m6 Zd] 52)) w4.heap.size 52 #[.slice ZA n6 Zc,.slice ZB m6 Zd]):=Blk.new _ _ _
 have Zn:=LH (And.intro (Zn.out.1.below (nl _) hal) (Zn.out.2.below (nl _) hal))
 have HNX:=LH (HNX.out.call hal)
 have HCX:=LH (HCX.out.call hal)
 have HB:=LH (zA0 HB.out hal)
 have On:=LH (And.intro (On.out.1.below (nl _) hal) (On.out.2.below (nl _) hal))
 have Ob:=LH (Ob.out.call hal)
 have Pn:=LH (And.intro (Pn.out.1.below (nl _) hal) (Pn.out.2.below (nl _) hal))
 have Pb:=LH (Pb.out.call hal)
 have Un:=LH (And.intro (Un.out.1.below (nl _) hal) (Un.out.2.below (nl _) hal))
 have Ub:=LH (Ub.out.call hal)
 have Qn:=LH (And.intro (Qn.out.1.below (nl _) hal) (Qn.out.2.below (nl _) hal))
 have Qb:=LH (Qb.out.call hal)
 have Vn:=LH (And.intro (Vn.out.1.below (nl _) hal) (Vn.out.2.below (nl _) hal))
 have Vb:=LH (Vb.out.call hal)
 clear hal d0 d1 o0_ o1_ p0_ p1_ q0_ q1_
 generalize w4.alloc (Obj.cells #[.slice ZA n6 Zc,.slice ZB m6 Zd] 52)=w11 at HNX HCX HB On Ob Pn Pb Un Ub Qn Qb Vn Vb Zn Zb⊢
 generalize w4.heap.size=Zg at Zb⊢
 obtain ⟨d0,d1⟩:=blk2 HNX.out
 obtain ⟨o0_,o1_⟩:=blk2 Ob.out
 obtain ⟨p0_,p1_⟩:=blk2 Pb.out
 obtain ⟨q0_,q1_⟩:=blk2 Qb.out
 obtain ⟨z0_,z1_⟩:=blk2 Zb.out
 have SK4:Hid (Calls Tryz.prog 30 #[.agg #[.slice ZA n6 Zc,.slice ZB m6 Zd],.agg #[.slice PA n2 Pc,.slice PB m2 Pd]] w11 fun e w''=>e= .returned (.bool true)∧Below w11.heap.size w11 w''):=by
  have hvz:VS (recN ZX n6) (recL ZY m6):=by rw [Zr.out.1,Zr.out.2];exact V3.out
  have h:=r_alike ZA ZB PA PB n6 Zc m6 Zd n2 Pc m2 Pd ZX PX ZY PY w11 hvz V1.out Zn.out.1 Zn.out.2 Pn.out.1 Pn.out.2
  rw [Zr.out.1,Zr.out.2,zA2 K2.out] at h
  exact h
 go_wp2_with (first
  |(go_at_call 30
    with_reducible refine (SK4.out).mono ?_
    rintro e w4 ⟨rfl,hb4⟩
    have HNX:=LH (HNX.out.call hb4)
    have HCX:=LH (HCX.out.call hb4)
    have HB:=LH (zA0 HB.out hb4)
    have On:=LH (And.intro (On.out.1.below (nl _) hb4) (On.out.2.below (nl _) hb4))
    have Ob:=LH (Ob.out.call hb4)
    have Pn:=LH (And.intro (Pn.out.1.below (nl _) hb4) (Pn.out.2.below (nl _) hb4))
    have Pb:=LH (Pb.out.call hb4)
    have Un:=LH (And.intro (Un.out.1.below (nl _) hb4) (Un.out.2.below (nl _) hb4))
    have Ub:=LH (Ub.out.call hb4)
    have Qn:=LH (And.intro (Qn.out.1.below (nl _) hb4) (Qn.out.2.below (nl _) hb4))
    have Qb:=LH (Qb.out.call hb4)
    have Vn:=LH (And.intro (Vn.out.1.below (nl _) hb4) (Vn.out.2.below (nl _) hb4))
    have Vb:=LH (Vb.out.call hb4)
    have Zn:=LH (And.intro (Zn.out.1.below (nl _) hb4) (Zn.out.2.below (nl _) hb4))
    have Zb:=LH (Zb.out.call hb4)
    clear d0 d1 o0_ o1_ p0_ p1_ q0_ q1_ z0_ z1_
    obtain ⟨d0,d1⟩:=blk2 HNX.out
    obtain ⟨o0_,o1_⟩:=blk2 Ob.out
    obtain ⟨p0_,p1_⟩:=blk2 Pb.out
    obtain ⟨q0_,q1_⟩:=blk2 Qb.out
    obtain ⟨z0_,z1_⟩:=blk2 Zb.out
    clear hb4))
 go_ret
 exact ⟨rfl,HB.out⟩
end Go.Proofs.YtchakniaoeodmaaGreatDoor

/- Merged texts of these proofs: OpLi, OpCl, LLi. -/
import Derived.LaidMore
import Derived.Lay
import Derived.Stop.Joined
import Derived.Stop.LaidErr
import Derived.Lib.LaidTab
import Derived.Test.YtchakniaoeodmaaGreatDoorMgO
import Derived.Test.YtchakniaoeodmaaGreatDoorSrAll
namespace Go.Proofs.YtchakniaoeodmaaGreatDoor.scenarioListsRow
open Go.Proofs.YtchakniaoeodmaaGreatDoor Go.RowKit Go.WideShapes Go.ChangeShapes Go.ChangeAt Go.Deep Go.Joins
set_option linter.unusedVariables false
set_option linter.unusedSimpArgs false
theorem door_met (os:Os) (args:Array Value):laidMetH Tryz.prog Rows.scenarioListsRow.laid ((World.laidAll Tryz.prog os Rows.scenarioListsRow.laid).forCall (fun _ _=>0) ⟨#[],args,[]⟩).memory:=by
 rw [MakeChecks.laidMetH_plain _ _ _ (by kernel_rfl)]
 exact laidMet_laidAll _ (by kernel_rfl) (by kernel_rfl)
end Go.Proofs.YtchakniaoeodmaaGreatDoor.scenarioListsRow
namespace Go.Proofs.YtchakniaoeodmaaGreatDoor
open Go.RowKit Go.WideShapes Go.ChangeShapes Go.ChangeAt Go.Deep
section
variable {H:Type} {enc:TypeId×Value→H} {W:World}
set_option maxRecDepth 100000 in
theorem open_changes {b0:Nat} {v:Value} {d:DataW H} {p:List MemPlace} (hv:Value.okWide Tryz.prog W .any b0 22 v) (h:DataW.Trod enc Tryz.prog W 0 (fun _=>true) true 22 v d p):
 ∃(A:Option Addr) (n c:Nat) (Kd:Nat→Int) (D:Nds) (K:Lks),v= .slice A n c∧ChsIn W A n Kd D K:=by
 obtain ⟨a,len,cap,rfl⟩:=okWide_slice Tryz.underlying22 hv
 obtain ⟨fuel,hf⟩:=h
 exact zP9 (v:=.slice a len cap) (by simpa [Value.cells] using hf)
end
open Go.RowKit
set_option maxRecDepth 100000 in
set_option maxHeartbeats 32000000 in
theorem l_lists (NA LA CA:Option Addr) (n nc0 m lc0 len cc:Nat) (Kd:Nat→Int) (D C:Nds) (K E:Lks) (w:World) (hD:NdIn w NA n D) (hK:LkIn w LA m K) (hC:ChsIn w CA len Kd C E):
 Calls Tryz.prog 4 #[.agg #[.slice NA n nc0,.slice LA m lc0],.slice CA len cc] w fun e w'=>e= .returned (.bool true)∧Below w.heap.size w w':=by
 have hal:Below w.heap.size w (w.alloc (Obj.cells #[.slice NA n nc0,.slice LA m lc0] 52)):=(bR _ w).alloc (nl _) _
 have HB:=LH hal
 have HNX:Hid (Blk (w.alloc (Obj.cells #[.slice NA n nc0,.slice LA m lc0] 52)) w.heap.size 52 #[.slice NA n nc0,.slice LA m lc0]):=Blk.new _ _ _
 have HD:=LH hD
 have HK:=LH hK
 have HC:=LH hC
 have SH:Hid (∀w',Below w.heap.size w w'→Calls Tryz.prog 24 #[.agg #[.slice NA n nc0,.slice LA m lc0]] w' fun e w''=>e= .returned (.bool (boolOf (hvyP D n K m)))∧Below w'.heap.size w' w''):=fun w' hb=>sc_heavy NA LA n nc0 m lc0 D K w' (zB3 HD.out hb) (zB1 HK.out hb)
 clear hD hK hC hal
 go_enter Tryz.func4,Tryz.ntmps4
 go_upto_region 1 with fail
 generalize w.alloc (Obj.cells #[.slice NA n nc0,.slice LA m lc0] 52)=w2 at HB HNX⊢
 obtain ⟨d0,d1⟩:=blk2 HNX.out
 by_cases hh:hvyP D n K m
 ·rw [zA2 hh] at SH
  clear hh
  go_wp2_with (first
  |(go_at_call 10
    with_reducible refine (zV8 _).mono ?_
    rintro e w4 ⟨rfl,hb4⟩
    have HNX:=LH (HNX.out.call hb4)
    have HB:=LH (zA1 HB.out hb4)
    clear d0 d1 
    obtain ⟨d0,d1⟩:=blk2 HNX.out
    clear hb4)
  |(go_at_call 24
    with_reducible refine (SH.out _ HB.out).mono ?_
    rintro e w4 ⟨rfl,hb4⟩
    have HNX:=LH (HNX.out.call hb4)
    have HB:=LH (zA1 HB.out hb4)
    clear d0 d1 
    obtain ⟨d0,d1⟩:=blk2 HNX.out
    clear hb4))
  go_ret
  exact ⟨rfl,HB.out⟩
 rw [zA0 hh] at SH
 by_cases q1:12<len∧len≤1000
 ·have t1:decide ((12:Int)<(len:Int))=true:=dU (by omega)
  have t1':decide (12<len)=true:=dU q1.1
  have t2:decide ((len:Int)≤1000)=true:=dU (by omega)
  have t2':decide (len≤1000)=true:=dU q1.2
  clear hh q1
  go_wp2_with (first
  |(go_at_call 10
    with_reducible refine (zV8 _).mono ?_
    rintro e w4 ⟨rfl,hb4⟩
    have HNX:=LH (HNX.out.call hb4)
    have HB:=LH (zA1 HB.out hb4)
    clear d0 d1 
    obtain ⟨d0,d1⟩:=blk2 HNX.out
    clear hb4)
  |(go_at_call 24
    with_reducible refine (SH.out _ HB.out).mono ?_
    rintro e w4 ⟨rfl,hb4⟩
    have HNX:=LH (HNX.out.call hb4)
    have HB:=LH (zA1 HB.out hb4)
    clear d0 d1 
    obtain ⟨d0,d1⟩:=blk2 HNX.out
    clear hb4))
  go_ret
  exact ⟨rfl,HB.out⟩
 by_cases q2:2000<len
 ·have t1:decide ((12:Int)<(len:Int))=true:=dU (by omega)
  have t1':decide (12<len)=true:=dU (by omega)
  have t2:decide ((len:Int)≤1000)=false:=dF (by omega)
  have t2':decide (len≤1000)=false:=dF (by omega)
  have t3:decide ((2000:Int)<(len:Int))=true:=dU (by omega)
  have t3':decide (2000<len)=true:=dU q2
  clear hh q1 q2
  go_wp2_with (first
  |(go_at_call 10
    with_reducible refine (zV8 _).mono ?_
    rintro e w4 ⟨rfl,hb4⟩
    have HNX:=LH (HNX.out.call hb4)
    have HB:=LH (zA1 HB.out hb4)
    clear d0 d1 
    obtain ⟨d0,d1⟩:=blk2 HNX.out
    clear hb4)
  |(go_at_call 24
    with_reducible refine (SH.out _ HB.out).mono ?_
    rintro e w4 ⟨rfl,hb4⟩
    have HNX:=LH (HNX.out.call hb4)
    have HB:=LH (zA1 HB.out hb4)
    clear d0 d1 
    obtain ⟨d0,d1⟩:=blk2 HNX.out
    clear hb4))
  go_ret
  exact ⟨rfl,HB.out⟩
 have t3:decide ((2000:Int)<(len:Int))=false:=dF (by omega)
 have t3':decide (2000<len)=false:=dF q2
 obtain ⟨lg,hlg⟩:∃lg,boolOf (∃j,j<len∧(fun j=>boolOf (lgnP C j∨lgkP E j)) j=true)=lg:=⟨_,rfl⟩
 have hlb:len≤2000:=by omega
 have SL:Hid (∀w',Below w.heap.size w w'→Calls Tryz.prog 11 #[.slice CA len cc,.func (.func 12) #[] #[]] w' fun e w''=>e= .returned (.bool lg)∧Below w'.heap.size w' w''):=fun w' hb=>chas_Lg CA len cc Kd C E (fun j=>boolOf (lgnP C j∨lgkP E j)) w' hlb (HC.out.below (nl _) hb) lg (by rw [←hlg];exact zR1) (fun i _ w'' _=>sc_long (Kd i) i i C E w'')
 by_cases q3:len≤12∧lg=true
 ·have t1:decide ((12:Int)<(len:Int))=false:=dF (by omega)
  have t1':decide (12<len)=false:=dF (by omega)
  have t4:decide ((len:Int)≤12)=true:=dU (by omega)
  have t4':decide (len≤12)=true:=dU q3.1
  obtain ⟨_,rfl⟩:=q3
  clear hh q1 q2 hlg hlb
  go_wp2_with (first
  |(go_at_call 10
    with_reducible refine (zV8 _).mono ?_
    rintro e w4 ⟨rfl,hb4⟩
    have HNX:=LH (HNX.out.call hb4)
    have HB:=LH (zA1 HB.out hb4)
    clear d0 d1 
    obtain ⟨d0,d1⟩:=blk2 HNX.out
    clear hb4)
  |(go_at_call 24
    with_reducible refine (SH.out _ HB.out).mono ?_
    rintro e w4 ⟨rfl,hb4⟩
    have HNX:=LH (HNX.out.call hb4)
    have HB:=LH (zA1 HB.out hb4)
    clear d0 d1 
    obtain ⟨d0,d1⟩:=blk2 HNX.out
    clear hb4)
  |(go_at_call 11
    with_reducible refine (SL.out _ HB.out).mono ?_
    rintro e w4 ⟨rfl,hb4⟩
    have HNX:=LH (HNX.out.call hb4)
    have HB:=LH (zA1 HB.out hb4)
    clear d0 d1 
    obtain ⟨d0,d1⟩:=blk2 HNX.out
    clear hb4))
  go_ret
  exact ⟨rfl,HB.out⟩
 have hzz:=hvy_zz hh
 have hG:∃(N1:List Ndr) (L1:List Lkr) (n1 m1 k:Nat) (er:Int),n1≤2000∧m1≤2000∧(∀w',Below w.heap.size w w'→Calls Tryz.prog 25 #[.agg #[.slice NA n nc0,.slice LA m lc0],.slice CA len cc] w' (AlG N1 L1 n1 m1 k er w'))∧∀w',Below w.heap.size w w'→Calls Tryz.prog 26 #[.agg #[.slice NA n nc0,.slice LA m lc0],.slice CA len cc] w' (AlG N1 L1 n1 m1 k er w'):=by
  by_cases hp:netP D n K m
  ·by_cases q4:1000<len
   ·exact ⟨[],[],0,0,0,4,by omega,by omega,fun w' hb=>sc_all_full NA LA CA n nc0 m lc0 len cc D K w' hzz hp q4 (zB3 HD.out hb) (zB1 HK.out hb),fun w' hb=>r_all_full NA LA CA n nc0 m lc0 len cc D K w' hzz hp q4 (zB3 HD.out hb) (zB1 HK.out hb)⟩
   ·have hlen:len≤12:=by omega
    have hz:∀k,k<len→ZN (zA7 C k)∧ZL (zA5 E k):=fun k hk=>by
        have h:¬(lgnP C k∨lgkP E k):=fun q=>q3 ⟨hlen,by rw [←hlg];exact zA2 ⟨k,hk,zA2 q⟩⟩
        exact ⟨ln_z fun g=>h (.inl g),ll_z fun g=>h (.inr g)⟩
    obtain ⟨N1,L1,n1,m1,k,er,b1,b2,hg⟩:=all_G Kd C E len (VS.of hp)
    exact ⟨N1,L1,n1,m1,k,er,b1,b2,fun w' hb=>(sc_ApplyAll NA LA CA n nc0 m lc0 len cc D K Kd C E w' (VS.of hp) (by omega) (zB3 HD.out hb) (zB1 HK.out hb) (HC.out.below (nl _) hb) hz).mono fun e w'' h=>hg _ _ _ h,fun w' hb=>(r_ApplyAll NA LA CA n nc0 m lc0 len cc D K Kd C E w' (VS.of hp) (by omega) (zB3 HD.out hb) (zB1 HK.out hb) (HC.out.below (nl _) hb) hz).mono fun e w'' h=>hg _ _ _ h⟩
  ·exact ⟨[],[],0,0,0,1,by omega,by omega,fun w' hb=>sc_all_bad NA LA CA n nc0 m lc0 len cc D K w' hzz hp (zB3 HD.out hb) (zB1 HK.out hb),fun w' hb=>r_all_bad NA LA CA n nc0 m lc0 len cc D K w' hzz hp (zB3 HD.out hb) (zB1 HK.out hb)⟩
 obtain ⟨N1,L1,n1,m1,k,er,b1,b2,hs,hr⟩:=hG
 have SA:=LH hs
 have SA2:=LH hr
 have HB2:=LH (And.intro b1 b2)
 have te:(er==er)=true:=by simp
 have tk:((k:Int)==(k:Int))=true:=by simp
 have hcase:(len≤12∧lg=false)∨(12<len∧1000<len):=by
  by_cases h:len≤12
  ·exact .inl ⟨h,by cases lg with |false=>rfl |true=>exact absurd ⟨h,rfl⟩ q3⟩
  ·exact .inr ⟨by omega,by omega⟩
 have hf:∃(a b' c:Bool),decide ((12:Int)<(len:Int))=a∧decide (12<len)=a∧decide ((len:Int)≤1000)=b'∧decide (len≤1000)=b'∧decide ((len:Int)≤12)=c∧decide (len≤12)=c∧((a=false∧b'=true∧c=true∧lg=false)∨(a=true∧b'=false∧c=false)):=by
  rcases hcase with ⟨h1,h2⟩|⟨h1,h2⟩
  ·exact ⟨false,true,true,dF (by omega),dF (by omega),dU (by omega),dU (by omega),dU (by omega),dU h1,.inl ⟨rfl,rfl,rfl,h2⟩⟩
  ·exact ⟨true,false,false,dU (by omega),dU h1,dF (by omega),dF (by omega),dF (by omega),dF (by omega),.inr ⟨rfl,rfl,rfl⟩⟩
 clear hh q1 q2 q3 hlg hlb hzz hs hr b1 b2 hcase
 obtain ⟨a,b',c,t1,t1',t2,t2',t4,t4',hq⟩:=hf
 rcases hq with ⟨rfl,rfl,rfl,rfl⟩|⟨rfl,rfl,rfl⟩
 all_goals
  go_upto_region 5 with (first
   |(go_at_call 10
     with_reducible refine (zV8 _).mono ?_
     rintro e w4 ⟨rfl,hb4⟩
     have HNX:=LH (HNX.out.call hb4)
     have HB:=LH (zA1 HB.out hb4)
     clear d0 d1 
     obtain ⟨d0,d1⟩:=blk2 HNX.out
     clear hb4)
   |(go_at_call 24
     with_reducible refine (SH.out _ HB.out).mono ?_
     rintro e w4 ⟨rfl,hb4⟩
     have HNX:=LH (HNX.out.call hb4)
     have HB:=LH (zA1 HB.out hb4)
     clear d0 d1 
     obtain ⟨d0,d1⟩:=blk2 HNX.out
     clear hb4)
   |(go_at_call 11
     with_reducible refine (SL.out _ HB.out).mono ?_
     rintro e w4 ⟨rfl,hb4⟩
     have HNX:=LH (HNX.out.call hb4)
     have HB:=LH (zA1 HB.out hb4)
     clear d0 d1 
     obtain ⟨d0,d1⟩:=blk2 HNX.out
     clear hb4))
  go_upto_region 6 with (first
   |(go_at_call 25
     with_reducible refine (SA.out _ HB.out).mono ?_
     rintro e w4 ⟨PX,PY,PA,PB,Pc,Pd,rfl,r1,r2,h1,h2,hb4⟩
     have Pr:=LH (And.intro r1 r2)
     have Pn:=LH (And.intro h1 h2)
     have HNX:=LH (HNX.out.call hb4)
     have HB:=LH (zA1 HB.out hb4)
     clear d0 d1 
     obtain ⟨d0,d1⟩:=blk2 HNX.out
     clear hb4 r1 r2 h1 h2))
  have hal:Below w4.heap.size w4 (w4.alloc (Obj.cells #[.slice PA n1 Pc,.slice PB m1 Pd] 52)):=(bR _ w4).alloc (nl _) _
  have Pb:Hid (Blk (w4.alloc (Obj.cells #[.slice PA n1 Pc,.slice PB m1 Pd] 52)) w4.heap.size 52 #[.slice PA n1 Pc,.slice PB m1 Pd]):=Blk.new _ _ _
  have Pn:=LH (And.intro (Pn.out.1.below (nl _) hal) (Pn.out.2.below (nl _) hal))
  have HNX:=LH (HNX.out.call hal)
  have HB:=LH (zA1 HB.out hal)
  clear hal d0 d1 
  generalize w4.alloc (Obj.cells #[.slice PA n1 Pc,.slice PB m1 Pd] 52)=w5 at HNX HB Pn Pb⊢
  generalize w4.heap.size=Pg at Pb⊢
  obtain ⟨d0,d1⟩:=blk2 HNX.out
  obtain ⟨p0_,p1_⟩:=blk2 Pb.out
  go_upto_region 7 with (first
   |(go_at_call 26
     with_reducible refine (SA2.out _ HB.out).mono ?_
     rintro e w4 ⟨QX,QY,QA,QB,Qc,Qd,rfl,r1,r2,h1,h2,hb4⟩
     have Qr:=LH (And.intro r1 r2)
     have Qn:=LH (And.intro h1 h2)
     have HNX:=LH (HNX.out.call hb4)
     have HB:=LH (zA1 HB.out hb4)
     have Pn:=LH (And.intro (Pn.out.1.below (nl _) hb4) (Pn.out.2.below (nl _) hb4))
     have Pb:=LH (Pb.out.call hb4)
     clear d0 d1 p0_ p1_
     obtain ⟨d0,d1⟩:=blk2 HNX.out
     obtain ⟨p0_,p1_⟩:=blk2 Pb.out
     clear hb4 r1 r2 h1 h2))
  have hal:Below w4.heap.size w4 (w4.alloc (Obj.cells #[.slice QA n1 Qc,.slice QB m1 Qd] 52)):=(bR _ w4).alloc (nl _) _
  have Qb:Hid (Blk (w4.alloc (Obj.cells #[.slice QA n1 Qc,.slice QB m1 Qd] 52)) w4.heap.size 52 #[.slice QA n1 Qc,.slice QB m1 Qd]):=Blk.new _ _ _
  have Qn:=LH (And.intro (Qn.out.1.below (nl _) hal) (Qn.out.2.below (nl _) hal))
  have HNX:=LH (HNX.out.call hal)
  have HB:=LH (zA1 HB.out hal)
  have Pn:=LH (And.intro (Pn.out.1.below (nl _) hal) (Pn.out.2.below (nl _) hal))
  have Pb:=LH (Pb.out.call hal)
  clear hal d0 d1 p0_ p1_
  generalize w4.alloc (Obj.cells #[.slice QA n1 Qc,.slice QB m1 Qd] 52)=w6 at HNX HB Pn Pb Qn Qb⊢
  generalize w4.heap.size=Qg at Qb⊢
  obtain ⟨d0,d1⟩:=blk2 HNX.out
  obtain ⟨p0_,p1_⟩:=blk2 Pb.out
  obtain ⟨q0_,q1_⟩:=blk2 Qb.out
  clear SA SA2 SH SL
  have SM:Hid (∀w',Below w6.heap.size w6 w'→Calls Tryz.prog 27 #[.agg #[.slice PA n1 Pc,.slice PB m1 Pd],.agg #[.slice QA n1 Qc,.slice QB m1 Qd]] w' fun e w''=>e= .returned (.bool true)∧Below w'.heap.size w' w''):=fun w' hb=>by
   have h:=rsameNet PA PB QA QB n1 Pc m1 Pd n1 Qc m1 Qd PX QX PY QY w' HB2.out.1 HB2.out.2 (zB3 Pn.out.1 hb) (zB1 Pn.out.2 hb) (zB3 Qn.out.1 hb) (zB1 Qn.out.2 hb)
   rw [zA2 (show netS PX n1 PY m1 QX n1 QY m1 from ⟨Pr.out.1.trans Qr.out.1.symm,Pr.out.2.trans Qr.out.2.symm⟩)] at h
   exact h
  have HW:Hid (Below w6.heap.size w6 w6):=bR _ _
  go_wp2_with (first
   |(go_at_call 27
     with_reducible refine (SM.out _ HW.out).mono ?_
     rintro e w4 ⟨rfl,hb4⟩
     have HNX:=LH (HNX.out.call hb4)
     have HB:=LH (zA1 HB.out hb4)
     have Pn:=LH (And.intro (Pn.out.1.below (nl _) hb4) (Pn.out.2.below (nl _) hb4))
     have Pb:=LH (Pb.out.call hb4)
     have Qn:=LH (And.intro (Qn.out.1.below (nl _) hb4) (Qn.out.2.below (nl _) hb4))
     have Qb:=LH (Qb.out.call hb4)
     clear d0 d1 p0_ p1_ q0_ q1_
     obtain ⟨d0,d1⟩:=blk2 HNX.out
     obtain ⟨p0_,p1_⟩:=blk2 Pb.out
     obtain ⟨q0_,q1_⟩:=blk2 Qb.out
     have HW:=LH (zA1 HW.out hb4)
     clear hb4))
  go_ret
  exact ⟨rfl,HB.out⟩
end Go.Proofs.YtchakniaoeodmaaGreatDoor

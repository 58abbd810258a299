/- Merged texts of these proofs: SrCo. -/
import Derived.Test.YtchakniaoeodmaaGreatDoorMgMs
import Derived.Test.YtchakniaoeodmaaGreatDoorMgP
import Derived.Test.YtchakniaoeodmaaGreatDoorMgDb
namespace Go.Proofs.YtchakniaoeodmaaGreatDoor
open Go.RowKit
set_option linter.unusedVariables false
set_option linter.unusedSimpArgs false
def lo0 (f:Nat→Int) (i:Nat):Int:=if i=0 then 0 else loF f i
def hi0 (f:Nat→Int) (i:Nat):Int:=if i=0 then 0 else hiF f i
theorem lo0_one (f:Nat→Int):lo0 f 1=f 0:=by
 unfold lo0 loF loF
 rw [if_neg (by omega)]
 omega
theorem hi0_one (f:Nat→Int):hi0 f 1=f 0:=by
 unfold hi0 hiF hiF
 rw [if_neg (by omega)]
 omega
theorem lo0_step {f:Nat→Int} {i:Nat} (h:i≠0):lo0 f (i+1)=if f i<lo0 f i then f i else lo0 f i:=by
 unfold lo0
 rw [if_neg (by omega),if_neg h]
 show min (loF f i) (f i)=_
 split<;> omega
theorem hi0_step {f:Nat→Int} {i:Nat} (h:i≠0):hi0 f (i+1)=if hi0 f i<f i then f i else hi0 f i:=by
 unfold hi0
 rw [if_neg (by omega),if_neg h]
 show max (hiF f i) (f i)=_
 split<;> omega
set_option maxRecDepth 100000 in
set_option maxHeartbeats 16000000 in
theorem r_cmp_size (A B:Option Addr) (n c n' d:Nat) (S T:Sts) (w:World) (hn:n≠n'):
 Calls Tryz.prog 39 #[.slice A n c,.slice B n' d] w (CmPost (cmL S T n n') (cmE S T n n') w):=by
 have he:=cmE_3 (S:=S) (T:=T) (.inl hn:n≠n'∨ragP S T n)
 have HL:=LH (cmL_no he (by decide))
 rw [he]
 have t1:((n:Int)!=(n':Int))=true:=by simp;omega
 have t2:(n !=n')=true:=by simpa using hn
 have t3:((n:Int)==(n':Int))=false:=by rw [beq_eq_false_iff_ne];omega
 clear hn he
 go_enter Tryz.func39,Tryz.ntmps39
 go_wp2_with fail
 go_ret2
 exact cm_err HL.out rfl (bR _ _)
set_option maxRecDepth 100000 in
set_option maxHeartbeats 16000000 in
theorem r_cmp_none (A B:Option Addr) (c d:Nat) (S T:Sts) (w:World):
 Calls Tryz.prog 39 #[.slice A 0 c,.slice B 0 d] w (CmPost (cmL S T 0 0) (cmE S T 0 0) w):=by
 have HL:=LH (cmL_no (cmE_14 (S:=S) (T:=T)) (by decide))
 rw [cmE_14]
 go_enter Tryz.func39,Tryz.ntmps39
 go_wp2_with fail
 go_loopw [6] (fun u wr=>u= .int .i64 0∧wr=w) (fun _ _=>0)
 case atStart=>exact ⟨rfl,rfl⟩
 case round=>
  obtain ⟨rfl,rfl⟩:=hrel
  go_wp2_with fail
  go_ret2
  exact cm_err HL.out rfl (bR _ _)
set_option maxRecDepth 100000 in
set_option maxHeartbeats 32000000 in
theorem r_cmp_all (b off b2 off2 n c d:Nat) (S T:Sts) (w:World) (h0:n≠0) (h12:n≤12) (hS:StAt w b off n S) (hT:StAt w b2 off2 n T) (hv:∀k,k<n→S.VN k≤12) (hv':∀k,k<n→T.VN k≤12):
 Calls Tryz.prog 39 #[.slice (some ⟨b,off,none⟩) n c,.slice (some ⟨b2,off2,none⟩) n d] w (CmPost (cmL S T n n) (cmE S T n n) w):=by
 have HS:=LH hS
 have HT:=LH hT
 have HV:Hid (∀k,k<n→S.VN k≤12):=hv
 have HN0:Hid (0<n∧n≤12):=⟨by omega,h12⟩
 have t1:((n:Int)!=(n:Int))=false:=by simp
 have t2:((n:Int)==0)=false:=by rw [beq_eq_false_iff_ne];omega
 have t2':(n==0)=false:=by simpa using h0
 have t3:decide ((10000:Int)<(n:Int))=false:=dF (by omega)
 have t3':decide (10000<n)=false:=dF (by omega)
 obtain ⟨er,her⟩:∃er,cmE S T n n=er:=⟨_,rfl⟩
 obtain ⟨ML,hML⟩:∃L,cmL S T n n=L:=⟨_,rfl⟩
 rw [her,hML]
 have HER:=LH (And.intro her hML)
 obtain ⟨m,hm⟩:∃m,S.VN 0=m:=⟨_,rfl⟩
 have HMS0:=LH hm
 have HM12:Hid (m≤12):=by have h:=hv 0 (by omega);rw [hm] at h;exact h
 have kn:(0:Int)<(n:Int):=by omega
 have kn':0<n:=by omega
 obtain ⟨A0,c0,hc0⟩:=st_len hS kn' hm
 rw [Nat.zero_mul,Nat.add_zero] at hc0
 have HC0:=LH hc0
 have hbl:=hS.1
 clear hS hT hv hv' h0 h12 her hML hm
 go_enter Tryz.func39,Tryz.ntmps39
 go_wp2_with fail
 go_loopw [6] (fun u wr=>∃i:Nat,Hid (i≤n)∧u= .int .i64 i∧Hid (∀k,k<i→S.VN k=m∧T.VN k=m)∧Hid (Below w.heap.size w wr)) (fun u _=>n - (RowKit.intOf u).toNat)
 case atStart=>exact ⟨0,Nat.zero_le _,rfl,fun k hk=>by omega,bR _ _⟩
 case round=>
  obtain ⟨i,Hi,rfl,HA,HW⟩:=hrel
  by_cases hlt:i<n
  ·have T0:decide ((i:Int)<(n:Int))=true:=by simp<;> omega
   have T0':decide (i<n)=true:=dU hlt
   obtain ⟨i',hi'⟩:∃z,z=i+1:=⟨_,rfl⟩
   have x0:IntKind.i64.wrap ((i:Int)+1)=(i':Int):=by have:=HN0.out;rw [IntKind.wrap_i64];omega
   have k0:(0:Int)≤(i:Int):=by omega
   have k1:(i:Int)<(n:Int):=by omega
   have k2:i<n:=hlt
   have HLT:=LH hlt
   have HI':Hid (i'≤n∧i'=i+1):=⟨by omega,hi'⟩
   have HMS:Hid (n - (RowKit.intOf (Value.int .i64 (i':Int))).toNat<n - (RowKit.intOf (Value.int .i64 (i:Int))).toNat):=by show _<_;simp [RowKit.intOf];omega
   obtain ⟨p,hp⟩:∃p,S.VN i=p:=⟨_,rfl⟩
   obtain ⟨q,hq⟩:∃q,T.VN i=q:=⟨_,rfl⟩
   obtain ⟨A1,c1,f1⟩:=st_len (HS.out.below HW.out) hlt hp
   obtain ⟨A2,c2,f2⟩:=st_len (HT.out.below HW.out) hlt hq
   have f0:wr.cell? ⟨b,off,none⟩=some (.slice A0 m c0):=(HW.out.cell (p:=⟨b,off,none⟩) hbl).trans HC0.out
   have HPQ:=LH (And.intro hp hq)
   clear hlt hi' hp hq hc0
   by_cases e1:p=m
   case neg=>
        have u1:((p:Int)!=(m:Int))=true:=by simp;omega
        have u1':(p !=m)=true:=by simpa using e1
        have HE:Hid (er=3∧ML=[]):=by
         have h3:=cmE_3 (S:=S) (T:=T) (.inr ⟨i,HLT.out,.inl (by rw [HPQ.out.1,HMS0.out];exact e1)⟩:n≠n∨ragP S T n)
         exact ⟨by rw [←HER.out.1];exact h3,by rw [←HER.out.2];exact cmL_no h3 (by decide)⟩
        have her:=HE.out.1
        subst her
        clear e1
        go_upto_region 6 with fail
        go_quiet (fail)
        have HEW:Hid (Below w.heap.size w (wr.drewN nq)):=zD0 HW.out _
        go_wp2_with fail
        go_ret2
        exact cm_err HE.out.2 rfl HEW.out
   subst e1
   have u1:((p:Int)!=(p:Int))=false:=by simp
   have u1':(p !=p)=false:=by simp
   by_cases e2:q=p
   case neg=>
        have u2:((q:Int)!=(p:Int))=true:=by simp;omega
        have u2':(q !=p)=true:=by simpa using e2
        have HE:Hid (er=3∧ML=[]):=by
         have h3:=cmE_3 (S:=S) (T:=T) (.inr ⟨i,HLT.out,.inr (by rw [HPQ.out.2,HMS0.out];exact e2)⟩:n≠n∨ragP S T n)
         exact ⟨by rw [←HER.out.1];exact h3,by rw [←HER.out.2];exact cmL_no h3 (by decide)⟩
        have her:=HE.out.1
        subst her
        clear e2
        go_upto_region 6 with fail
        go_quiet (fail)
        have HEW:Hid (Below w.heap.size w (wr.drewN nq)):=zD0 HW.out _
        go_wp2_with fail
        go_ret2
        exact cm_err HE.out.2 rfl HEW.out
   subst e2
   have HA':Hid (∀k,k<i'→S.VN k=q∧T.VN k=q):=fun k hk=>by
        by_cases g:k<i
        ·exact HA.out k g
        ·rw [show k=i by have:=HI'.out;omega]
         exact HPQ.out
   go_upto_region 6 with fail
   go_quiet (fail)
   have HW3:Hid (Below w.heap.size w (wr.drewN nq)):=zD0 HW.out _
   go_wp2_with fail
   go_roundw
   case rel=>exact ⟨i',HI'.out.1,rfl,HA',HW3⟩
   case measure=>exact HMS.out
  have e:i=n:=by have:=Hi.out;omega
  subst e
  have T0:decide ((i:Int)<(i:Int))=false:=by simp
  have T0':decide (i<i)=false:=by simp
  have HSV:Hid (∀k,k<i→S.VN k=m∧T.VN k=m):=HA.out
  have HNR:Hid (¬ragP S T i):=fun ⟨k,hk,h⟩=>by
   have g:=HSV.out k hk
   have g0:=HMS0.out
   rcases h with h |h
   ·exact h (by rw [g.1,g0])
   ·exact h (by rw [g.2,g0])
  clear hlt HA hc0
  go_wp2_with fail
  go_loopw [7,8] (fun v' u w1=>∃(k:Nat) (v:Value),Hid (k≤m)∧v=v'∧u= .int .i64 k∧Hid (SpO w.heap.size (cmpL S T i k) v w1)∧Hid (Below w.heap.size w w1)∧Hid (∀q,q<k→∀j,j<i→¬badV (S.V j q)∧¬badV (T.V j q))) (fun _ u _=>m - (RowKit.intOf u).toNat)
  case atStart=>exact ⟨0,_,Nat.zero_le _,rfl,rfl,SpO.nil _ _,HW,fun q hq=>by omega⟩
  case round=>
   obtain ⟨k,v,Hk,rfl,rfl,HSP,HW,HGD⟩:=hrel
   have f0:=(HW.out.cell (p:=⟨b,off,none⟩) hbl).trans HC0.out
   by_cases hlt:k<m
   case neg=>
        have e:k=m:=by have:=Hk.out;omega
        subst e
        have T1:decide ((k:Int)<(k:Int))=false:=by simp
        have T1':decide (k<k)=false:=by simp
        have HR:¬rngP S T i:=fun ⟨j,hj,h⟩=>by
         have g:=HSV.out j hj
         rcases h with ⟨q,hq,hb⟩|⟨q,hq,hb⟩
         ·exact (HGD.out q (by rw [←g.1];exact hq) j hj).1 hb
         ·exact (HGD.out q (by rw [←g.2];exact hq) j hj).2 hb
        have HE:Hid (er=0∧ML=cmpL S T i (S.VN 0)):=by
         have h3:=cmE_0 HNR.out (by have:=HN0.out;omega) HR
         exact ⟨by rw [←HER.out.1];exact h3,by rw [←HER.out.2];exact if_pos h3⟩
        have her:=HE.out.1
        subst her
        have HRS:Hid (SpO w.heap.size ML v wr):=by show SpO _ _ _ _;rw [HE.out.2,HMS0.out];exact HSP.out
        clear hlt HR
        go_wp2_with fail
        go_ret2
        exact ⟨v,rfl,HRS.out,HW.out⟩
   have T1:decide ((k:Int)<(m:Int))=true:=by simp<;> omega
   have T1':decide (k<m)=true:=dU hlt
   obtain ⟨k',hk'⟩:∃z,z=k+1:=⟨_,rfl⟩
   have x0:IntKind.i64.wrap ((k:Int)+1)=(k':Int):=by have:=HM12.out;rw [IntKind.wrap_i64];omega
   have k0:(0:Int)≤(k:Int):=by omega
   have k1:(k:Int)<(m:Int):=by omega
   have k2:k<m:=hlt
   have HKT:=LH hlt
   have HK':Hid (k'≤m∧k'=k+1):=⟨by omega,hk'⟩
   have HMS:Hid (m - (RowKit.intOf (Value.int .i64 (k':Int))).toNat<m - (RowKit.intOf (Value.int .i64 (k:Int))).toNat):=by show _<_;simp [RowKit.intOf];omega
   have hal:Below wr.heap.size wr (wr.alloc (Obj.cells #[.int .i64 0,.int .i64 0] 87)):=(bR _ wr).alloc (nl _) _
   have HG:Hid (Blk (wr.alloc (Obj.cells #[.int .i64 0,.int .i64 0] 87)) wr.heap.size 87 #[.int .i64 (lo0 (dfV S T k) 0),.int .i64 (hi0 (dfV S T k) 0)]):=Blk.new wr 87 #[.int .i64 0,.int .i64 0]
   have HWA:=LH hal
   clear hlt hk' hal
   go_upto_region 17 with fail
   generalize wr.alloc (Obj.cells #[.int .i64 0,.int .i64 0] 87)=w8 at HG HWA⊢
   generalize hw7:wr=w7 at HG HWA HSP HW⊢
   clear f0 hw7
   go_wp2_with fail
   go_loopw [10] (fun u w2=>∃j:Nat,Hid (j≤i)∧u= .int .i64 j∧Hid (Blk w2 w7.heap.size 87 #[.int .i64 (lo0 (dfV S T k) j),.int .i64 (hi0 (dfV S T k) j)])∧Hid (Below w7.heap.size w7 w2)∧Hid (∀q,q<j→¬badV (S.V q k)∧¬badV (T.V q k))) (fun u _=>i - (RowKit.intOf u).toNat)
   case atStart=>exact ⟨0,Nat.zero_le _,rfl,HG,HWA,fun q hq=>by omega⟩
   case round=>
        clear HG HWA
        obtain ⟨j,Hj,rfl,HG,HWA,HJ⟩:=hrel
        by_cases hlt:j<i
        ·have T2:decide ((j:Int)<(i:Int))=true:=by simp<;> omega
         have T2':decide (j<i)=true:=dU hlt
         obtain ⟨j',hj'⟩:∃z,z=j+1:=⟨_,rfl⟩
         have x2:IntKind.i64.wrap ((j:Int)+1)=(j':Int):=by have:=HN0.out;rw [IntKind.wrap_i64];omega
         have j0:(0:Int)≤(j:Int):=by omega
         have j1:(j:Int)<(i:Int):=by omega
         have j2:j<i:=hlt
         have HI':Hid (j'≤i∧j'=j+1):=⟨by omega,hj'⟩
         have HMS2:Hid (i - (RowKit.intOf (Value.int .i64 (j':Int))).toNat<i - (RowKit.intOf (Value.int .i64 (j:Int))).toNat):=by show _<_;simp [RowKit.intOf];omega
         have hw:Below w.heap.size w wr:=zA1 HW.out HWA.out
         obtain ⟨b3,o3,c3,f0,f1⟩:=st_vol (HT.out.below hw) hlt (HSV.out j hlt).2 HKT.out
         obtain ⟨b4,o4,c4,f2,f3⟩:=st_vol (HS.out.below hw) hlt (HSV.out j hlt).1 HKT.out
         obtain ⟨x,hx⟩:∃x,S.V j k=x:=⟨_,rfl⟩
         obtain ⟨y,hy⟩:∃y,T.V j k=y:=⟨_,rfl⟩
         rw [hx] at f3
         rw [hy] at f1
         have HXY:=LH (And.intro hx hy)
         have HLT:=LH hlt
         have HWZ:=LH hw
         clear hlt hj' hw hx hy
         go_upto_region 20 with fail
         go_quiet (fail)
         have HG4:Hid (Blk (wr.drewN nq) w7.heap.size 87 #[.int .i64 (lo0 (dfV S T k) j),.int .i64 (hi0 (dfV S T k) j)]):=HG.out.call (zD0 (bR wr.heap.size wr) _)
         have HWB:Hid (Below w7.heap.size w7 (wr.drewN nq)):=zD0 HWA.out _
         clear f0 f1 f2 f3 HG HWA HWZ
         generalize wr.drewN nq=w9 at HG4 HWB⊢
         by_cases hbad:badV x∨badV y
         ·have hcs:x<0∨(¬x<0∧1125899906842624<x)∨(¬x<0∧¬1125899906842624<x∧y<0)∨(¬x<0∧¬1125899906842624<x∧¬y<0∧1125899906842624<y):=by unfold badV at hbad;omega
          have HE:Hid (er=2∧ML=[]):=by
           have h2:cmE S T i i=2:=cmE_2 HNR.out (by have:=HN0.out;omega) ⟨j,HLT.out,by
            rcases hbad with h |h
            ·exact .inl ⟨k,by rw [(HSV.out j HLT.out).1];exact HKT.out,by rw [HXY.out.1];exact h⟩
            ·exact .inr ⟨k,by rw [(HSV.out j HLT.out).2];exact HKT.out,by rw [HXY.out.2];exact h⟩⟩
           exact ⟨by rw [←HER.out.1];exact h2,by rw [←HER.out.2];exact cmL_no h2 (by decide)⟩
          have her:=HE.out.1
          subst her
          have HEW:=LH (zA1 HW.out HWB.out)
          clear hbad
          rcases hcs with g1 |⟨g1,g2⟩|⟨g1,g2,g3⟩|⟨g1,g2,g3,g4⟩
          ·have s1:decide (x<0)=true:=dU g1
           clear g1
           go_wp2_with fail
           go_ret2
           exact cm_err HE.out.2 rfl HEW.out
          ·have s1:decide (x<0)=false:=dF g1
           have s2:decide (1125899906842624<x)=true:=dU g2
           clear g1 g2
           go_wp2_with fail
           go_ret2
           exact cm_err HE.out.2 rfl HEW.out
          ·have s1:decide (x<0)=false:=dF g1
           have s2:decide (1125899906842624<x)=false:=dF g2
           have s3:decide (y<0)=true:=dU g3
           clear g1 g2 g3
           go_wp2_with fail
           go_ret2
           exact cm_err HE.out.2 rfl HEW.out
          ·have s1:decide (x<0)=false:=dF g1
           have s2:decide (1125899906842624<x)=false:=dF g2
           have s3:decide (y<0)=false:=dF g3
           have s4:decide (1125899906842624<y)=true:=dU g4
           clear g1 g2 g3 g4
           go_wp2_with fail
           go_ret2
           exact cm_err HE.out.2 rfl HEW.out
         have s1:decide (x<0)=false:=dF fun h=>hbad (.inl (.inl h))
         have s2:decide (1125899906842624<x)=false:=dF fun h=>hbad (.inl (.inr h))
         have s3:decide (y<0)=false:=dF fun h=>hbad (.inr (.inl h))
         have s4:decide (1125899906842624<y)=false:=dF fun h=>hbad (.inr (.inr h))
         obtain ⟨di,hdi⟩:∃d,dfV S T k j=d:=⟨_,rfl⟩
         have x3:IntKind.i64.wrap (y - x)=di:=by
          have g1:=of_decide_eq_false s1
          have g2:=of_decide_eq_false s2
          have g3:=of_decide_eq_false s3
          have g4:=of_decide_eq_false s4
          rw [←hdi,show dfV S T k j=y - x by unfold dfV;rw [HXY.out.1,HXY.out.2],IntKind.wrap_i64]
          omega
         have HJ':Hid (∀q,q<j'→¬badV (S.V q k)∧¬badV (T.V q k)):=fun q hq=>by
          by_cases g:q<j
          ·exact HJ.out q g
          ·rw [show q=j by have:=HI'.out;omega,HXY.out.1,HXY.out.2]
           exact ⟨fun h=>hbad (.inl h),fun h=>hbad (.inr h)⟩
         have HDI:=LH hdi
         clear hbad hdi
         obtain ⟨lo,hlo⟩:∃d,lo0 (dfV S T k) j=d:=⟨_,rfl⟩
         obtain ⟨hi,hhi⟩:∃d,hi0 (dfV S T k) j=d:=⟨_,rfl⟩
         rw [hlo,hhi] at HG4
         obtain ⟨e0,e1⟩:=blk2 HG4.out
         have g0:=HG4.out.frozen 0
         have g1:=HG4.out.frozen 1
         by_cases hj0:j=0
         ·have z1:((j:Int)==0)=true:=by simp [hj0]
          have z1':(j==0)=true:=by simp [hj0]
          have HG5:Hid (Blk ((w9.setCell ⟨w7.heap.size,0,none⟩ (.int .i64 di)).setCell ⟨w7.heap.size,1,none⟩ (.int .i64 di)) w7.heap.size 87 #[.int .i64 (lo0 (dfV S T k) j'),.int .i64 (hi0 (dfV S T k) j')]):=by
           have e2:lo0 (dfV S T k) j'=di:=by rw [HI'.out.2,hj0,←HDI.out,hj0];exact lo0_one _
           have e3:hi0 (dfV S T k) j'=di:=by rw [HI'.out.2,hj0,←HDI.out,hj0];exact hi0_one _
           rw [e2,e3]
           exact (HG4.out.set_ 0 _).set_ 1 _
          have HW5:Hid (Below w7.heap.size w7 ((w9.setCell ⟨w7.heap.size,0,none⟩ (.int .i64 di)).setCell ⟨w7.heap.size,1,none⟩ (.int .i64 di))):=(HWB.out.setCell (p:=⟨w7.heap.size,0,none⟩) (nl _) _).setCell (p:=⟨w7.heap.size,1,none⟩) (nl _) _
          have g2:=(HG4.out.set_ 0 (.int .i64 di)).frozen 1
          clear hj0 hlo hhi
          go_wp2_with fail
          go_roundw
          case rel=>exact ⟨j',HI'.out.1,rfl,HG5,HW5,HJ'⟩
          case measure=>exact HMS2.out
         ·have z1:((j:Int)==0)=false:=by rw [beq_eq_false_iff_ne];omega
          have z1':(j==0)=false:=by simpa using hj0
          have HLO:Hid (lo0 (dfV S T k) j'=if di<lo then di else lo):=by rw [←hlo,←HDI.out,HI'.out.2];exact lo0_step hj0
          have HHI:Hid (hi0 (dfV S T k) j'=if hi<di then di else hi):=by rw [←hhi,←HDI.out,HI'.out.2];exact hi0_step hj0
          clear hj0 hlo hhi
          by_cases c1:di<lo
          ·have v1:decide (di<lo)=true:=dU c1
           rw [if_pos c1] at HLO
           clear c1
           have HGa:Hid (Blk (w9.setCell ⟨w7.heap.size,0,none⟩ (.int .i64 di)) w7.heap.size 87 #[.int .i64 di,.int .i64 hi]):=HG4.out.set_ 0 _
           obtain ⟨e2,e3⟩:=blk2 HGa.out
           have g2:=HGa.out.frozen 1
           have HWa:Hid (Below w7.heap.size w7 (w9.setCell ⟨w7.heap.size,0,none⟩ (.int .i64 di))):=HWB.out.setCell (p:=⟨w7.heap.size,0,none⟩) (nl _) _
           by_cases c2:hi<di
           ·have v2:decide (hi<di)=true:=dU c2
            rw [if_pos c2] at HHI
            clear c2
            have HG5:Hid (Blk ((w9.setCell ⟨w7.heap.size,0,none⟩ (.int .i64 di)).setCell ⟨w7.heap.size,1,none⟩ (.int .i64 di)) w7.heap.size 87 #[.int .i64 (lo0 (dfV S T k) j'),.int .i64 (hi0 (dfV S T k) j')]):=by rw [HLO.out,HHI.out];exact HGa.out.set_ 1 _
            have HW5:Hid (Below w7.heap.size w7 ((w9.setCell ⟨w7.heap.size,0,none⟩ (.int .i64 di)).setCell ⟨w7.heap.size,1,none⟩ (.int .i64 di))):=HWa.out.setCell (p:=⟨w7.heap.size,1,none⟩) (nl _) _
            go_wp2_with fail
            go_roundw
            case rel=>exact ⟨j',HI'.out.1,rfl,HG5,HW5,HJ'⟩
            case measure=>exact HMS2.out
           ·have v2:decide (hi<di)=false:=dF c2
            rw [if_neg c2] at HHI
            clear c2
            have HG5:Hid (Blk (w9.setCell ⟨w7.heap.size,0,none⟩ (.int .i64 di)) w7.heap.size 87 #[.int .i64 (lo0 (dfV S T k) j'),.int .i64 (hi0 (dfV S T k) j')]):=by rw [HLO.out,HHI.out];exact HGa.out
            go_wp2_with fail
            go_roundw
            case rel=>exact ⟨j',HI'.out.1,rfl,HG5,HWa,HJ'⟩
            case measure=>exact HMS2.out
          ·have v1:decide (di<lo)=false:=dF c1
           rw [if_neg c1] at HLO
           clear c1
           by_cases c2:hi<di
           ·have v2:decide (hi<di)=true:=dU c2
            rw [if_pos c2] at HHI
            clear c2
            have HG5:Hid (Blk (w9.setCell ⟨w7.heap.size,1,none⟩ (.int .i64 di)) w7.heap.size 87 #[.int .i64 (lo0 (dfV S T k) j'),.int .i64 (hi0 (dfV S T k) j')]):=by rw [HLO.out,HHI.out];exact HG4.out.set_ 1 _
            have HW5:Hid (Below w7.heap.size w7 (w9.setCell ⟨w7.heap.size,1,none⟩ (.int .i64 di))):=HWB.out.setCell (p:=⟨w7.heap.size,1,none⟩) (nl _) _
            go_wp2_with fail
            go_roundw
            case rel=>exact ⟨j',HI'.out.1,rfl,HG5,HW5,HJ'⟩
            case measure=>exact HMS2.out
           ·have v2:decide (hi<di)=false:=dF c2
            rw [if_neg c2] at HHI
            clear c2
            have HG5:Hid (Blk w9 w7.heap.size 87 #[.int .i64 (lo0 (dfV S T k) j'),.int .i64 (hi0 (dfV S T k) j')]):=by rw [HLO.out,HHI.out];exact HG4.out
            go_wp2_with fail
            go_roundw
            case rel=>exact ⟨j',HI'.out.1,rfl,HG5,HWB,HJ'⟩
            case measure=>exact HMS2.out
        ·have e:j=i:=by have:=Hj.out;omega
         subst e
         have T2:decide ((j:Int)<(j:Int))=false:=by simp
         have T2':decide (j<j)=false:=by simp
         obtain ⟨lo,hlo⟩:∃d,loF (dfV S T k) j=d:=⟨_,rfl⟩
         obtain ⟨hi,hhi⟩:∃d,hiF (dfV S T k) j=d:=⟨_,rfl⟩
         have HLH:=LH (And.intro hlo hhi)
         have hj0:j≠0:=by have:=HN0.out;omega
         rw [show lo0 (dfV S T k) j=lo by rw [←hlo];exact if_neg hj0,show hi0 (dfV S T k) j=hi by rw [←hhi];exact if_neg hj0] at HG
         have HSP4:Hid (SpO w.heap.size (cmpL S T j k) v wr):=zC0 HSP.out HWA.out
         have HW4:=LH (zA1 HW.out HWA.out)
         have HGD':Hid (∀q,q<k'→∀p,p<j→¬badV (S.V p q)∧¬badV (T.V p q)):=fun q hq p hp=>by
          by_cases g:q<k
          ·exact HGD.out q g p hp
          ·rw [show q=k by have:=HK'.out;omega]
           exact HJ.out p hp
         clear hlt hlo hhi HWA hj0
         obtain ⟨e0,e1⟩:=blk2 HG.out
         have hal:Below wr.heap.size wr (wr.alloc (Obj.cells #[.int .i64 lo,.int .i64 hi] 87)):=(bR _ wr).alloc (nl _) _
         have HSP5:Hid (SpO w.heap.size (cmpL S T j k) v (wr.alloc (Obj.cells #[.int .i64 lo,.int .i64 hi] 87))):=zC0 HSP4.out hal
         have HW5:=LH (zA1 HW4.out hal)
         have HB5:Hid (Blk (wr.alloc (Obj.cells #[.int .i64 lo,.int .i64 hi] 87)) wr.heap.size 87 #[.int .i64 lo,.int .i64 hi]):=Blk.new _ _ _
         have HLM:Hid ((cmpL S T j k).length≤20000):=by show _≤_;rw [cmpL_len];have:=HM12.out;have:=HKT.out;omega
         have HNX:Hid (cmpL S T j k'=cmpL S T j k++[(lo,hi)]):=by show _=_;rw [HK'.out.2,cmpL_succ,HLH.out.1,HLH.out.2]
         clear hal
         go_wp2_with (at_builtin;refine wpList_append_sp rfl (.tmp 129) (.tmp 131) rfl w.heap.size v (cmpL S T j k) rfl HSP5.out wr.heap.size lo hi rfl HB5.out HLM.out w HW5.out (nl _) ?_
                      intro A9 c9 w9 ho9 hb9 hg9
                      rw [←HNX.out] at ho9⊢
                      have HO9:=LH ho9
                      have HB9:=LH hb9
                      clear ho9 hb9 hg9)
         go_roundw
         case rel=>exact ⟨k',_,HK'.out.1,rfl,rfl,HO9,HB9,HGD'⟩
         case measure=>exact HMS.out
theorem r_Compare (A B:Option Addr) (n c n' d:Nat) (S T:Sts) (w:World) (h12:n≤12) (hS:StIn w A n S) (hT:StIn w B n' T) (hv:∀k,k<n→S.VN k≤12) (hv':∀k,k<n'→T.VN k≤12):
 Calls Tryz.prog 39 #[.slice A n c,.slice B n' d] w (CmPost (cmL S T n n') (cmE S T n n') w):=by
 by_cases hn:n=n'
 ·subst hn
  by_cases h0:n=0
  ·subst h0
   exact r_cmp_none A B c d S T w
  ·obtain ⟨b,off,rfl,h1⟩:=hS.st h0
   obtain ⟨b2,off2,rfl,h2⟩:=hT.st h0
   exact r_cmp_all b off b2 off2 n c d S T w h0 h12 h1 h2 hv hv'
 ·exact r_cmp_size A B n c n' d S T w hn
end Go.Proofs.YtchakniaoeodmaaGreatDoor

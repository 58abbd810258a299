/- Undo of package scenario, where Apply accepts. Written by gen_scv.py. -/
import Derived.Test.YtchakniaoeodmaaGreatDoorZMgUV
namespace Go.Proofs.YtchakniaoeodmaaGreatDoor
open Go.RowKit
set_option linter.unusedVariables false
set_option linter.unusedSimpArgs false
theorem zL5 {N:List Ndr} {L:List Lkr} {c:Chr} (h:ApE N L c=0):VS N L∧apOK N L c:=by
 by_cases hv:VS N L
 ·refine ⟨hv,(apE_zero hv).1 ?_⟩
  rw [←(apl_ap (c:=c) hv).1];exact h
 ·have:ApE N L c=1:=if_neg hv
  omega
theorem zS7 {D:Nds} {n:Nat} {s:ByteArray} (h:hasN (recN D n) s):∃k,k<n∧fnd D.Nm n s=(k:Int):=by
 rw [hasN_fn,zJ0] at h
 rcases zC4 D.Nm n s with ⟨e,_⟩|⟨k,hk,e,_⟩
 ·omega
 ·exact ⟨k,hk,e⟩
theorem zS8 {D:Lks} {n:Nat} {s:ByteArray} (h:hasL (recL D n) s):∃k,k<n∧fnd D.Nm n s=(k:Int):=by
 rw [hasL_fn,zJ1] at h
 rcases zC4 D.Nm n s with ⟨e,_⟩|⟨k,hk,e,_⟩
 ·omega
 ·exact ⟨k,hk,e⟩
theorem ndM_at {NM:List Ndm} {D:Nds} {n k:Nat} (h:ndx NM=recN D n):zA7 (ndsM NM) k=(recN D n).getD k zNd:=by unfold ndsM;rw [ndsR_of,h]
theorem lkM_at {LM:List Lkm} {D:Lks} {n k:Nat} (h:lkx LM=recL D n):zA6 (lksM LM) k=(recL D n).getD k zLk:=by unfold lksM;rw [lksR_of,h]
theorem zH0 {NM:List Ndm} {D:Nds} {n:Nat} (h:ndx NM=recN D n):NM.length=n:=by have:=congrArg List.length h;rw [zA3] at this;simpa [ndx] using this
theorem zH1 {LM:List Lkm} {D:Lks} {n:Nat} (h:lkx LM=recL D n):LM.length=n:=by have:=congrArg List.length h;rw [zA4] at this;simpa [lkx] using this
theorem nd_mem {NM:List Ndm} {n k:Nat} (hn:NM.length=n) (hk:k<n) (h0:(ndsM NM).SN k≠0):∃p,p∈NM∧p.A=(ndsM NM).SA k∧p.x.T.length≠0:=by
 have hk2:k<NM.length:=by omega
 refine ⟨NM.getD k ⟨zNd,none,0⟩,zC8 hk2,rfl,?_⟩
 have e:(ndx NM).getD k zNd=(NM.getD k ⟨zNd,none,0⟩).x:=by unfold ndx;simp [List.getD,hk2]
 rw [←e]
 exact h0
theorem lk_mem {LM:List Lkm} {n k:Nat} (hn:LM.length=n) (hk:k<n) (h0:(lksM LM).CN k≠0):∃p,p∈LM∧p.A=(lksM LM).CA k∧p.x.T.length≠0:=by
 have hk2:k<LM.length:=by omega
 refine ⟨LM.getD k ⟨zLk,none,0⟩,zC8 hk2,rfl,?_⟩
 have e:(lkx LM).getD k zLk=(LM.getD k ⟨zLk,none,0⟩).x:=by unfold lkx;simp [List.getD,hk2]
 rw [←e]
 exact h0
set_option maxRecDepth 100000 in
set_option maxHeartbeats 16000000 in
theorem sc_undo1 (NA LA:Option Addr) (n nc0 m lc0 i j:Nat) (D C:Nds) (K E:Lks) (w:World) (hz:ZZ (recN D n) (recL K m)) (hx:ZN (zA7 C i)) (hl:ZL (zA6 E j)) (hD:NdIn w NA n D) (hK:LkIn w LA m K) (hTx:TabIn w (C.SA i) (C.SN i) (C.SX i) (C.SY i)) (hTl:TabIn w (E.CA j) (E.CN j) (E.CX j) (E.CY j)) (he:ApE (recN D n) (recL K m) (chrR 1 C i E j)=0):
 Calls Tryz.prog 33 #[.agg #[.slice NA n nc0,.slice LA m lc0],.agg (chA 1 C i E j)] w (UndPost (recN D n) (recL K m) (chrR 1 C i E j) w):=by
 obtain ⟨W3,hW3,HB4,HNX,HCX,HRX,HSZ3⟩:=bx3 w #[.slice NA n nc0,.slice LA m lc0] (chA 1 C i E j) cZc 52 34 34
 have hok:=zL5 he
 have SA:Hid (∀w',Below w.heap.size w w'→Calls Tryz.prog 31 #[.agg #[.slice NA n nc0,.slice LA m lc0],.agg (chA 1 C i E j)] w' (AplPost (recN D n) (recL K m) (chrR 1 C i E j) w')):=fun w' hb=>zI1 NA LA n nc0 m lc0 i j 1 D C K E w' hz hx hl (zB1 hD hb) (zA9 hK hb) (hTx.below (nl _) hb) (hTl.below (nl _) hb)
 have HER:=LH he
 have HLEN:Hid (n≤300∧m≤400):=⟨by have:=hok.1.n300;rwa [zA3] at this,by have:=hok.1.l400;rwa [zA4] at this⟩
 obtain ⟨v,hvv⟩:∃v,v=fnd D.Nm n (C.Nm i):=⟨_,rfl⟩
 have SF:Hid (∀w',Below w.heap.size w w'→Calls Tryz.prog 74 #[.agg #[.slice NA n nc0,.slice LA m lc0],.agg (chA 1 C i E j)] w' fun e w''=>e= .returned (.int .i64 v)∧Below w'.heap.size w' w''):=fun w' hb=>zE3 NA LA (C.SA i) (E.CA j) n nc0 m lc0 (C.SN i) (C.SC i) (E.CN j) (E.CC j) D K 1 (C.Kd i) (C.Ax i) (C.Ay i) (C.Iv i) (C.Gd i) (C.Rs i) (E.Kd j) (E.Ln j) (E.Up j) (E.Dn j) (E.Wd j) (E.Ht j) (C.Nm i) (E.Nm j) (E.Fr j) (E.To j) (E.Sc j) (C.Pt i) w' hz.n2 hz.m2 (zB1 hD hb) (zA9 hK hb) v (by rw [hvv];simp)
 have SC:Hid (∀w',Below w.heap.size w w'→Calls Tryz.prog 69 #[.agg #[.slice NA n nc0,.slice LA m lc0]] w' fun e w''=>∃u,e= .returned u∧CpPost (recN D n) (recL K m) w' u w''):=fun w' hb=>zD8 NA LA n nc0 m lc0 D K w' hz (zB1 hD hb) (zA9 hK hb)
 clear hz hx hl hD hK hTx hTl he hok hvv
 go_enter Tryz.func33,Tryz.ntmps33
 go_upto_region 1 with fail
 rw [hW3.out]
 clear hW3
 have HSZ4:Hid (w.heap.size+3≤W3.heap.size):=by show _≤_;rw [HSZ3.out];exact nl _
 clear HSZ3
 obtain ⟨d0,d1⟩:=blk2 HNX.out
 go_upto_region 2 with (first
 |(refine wpList_load_row rfl 34 (.tmp 3) rfl _ rfl _ _ (0,0) _ HCX.out Tryz.underlying34 rfl (by kernel_rfl) ?_)
 |(go_at_call 31
   with_reducible refine (SA.out _ HB4.out).mono ?_
   rintro e w4 ⟨u,rfl,NM1,LM1,A1,B1,k1,k2,q1,q2,rfl,hr1,hb1⟩
   have HNX:=LH (HNX.out.call hb1)
   have HCX:=LH (HCX.out.call hb1)
   have HRX:=LH (HRX.out.call hb1)
   have HB4:=LH (zA1 HB4.out hb1)
   have HSZ4:Hid (w.heap.size+3≤w4.heap.size):=nT HSZ4.out hb1.size
   clear hr1 q1 q2 hb1 d0 d1
   obtain ⟨d0,d1⟩:=blk2 HNX.out))
 rw [HER.out]
 have hal5:=Below.alloc (bR w4.heap.size w4) (nl _) (Obj.cells #[.slice A1 (ApN (recN D n) (recL K m) (chrR 1 C i E j)).length k1,.slice B1 (ApL (recN D n) (recL K m) (chrR 1 C i E j)).length k2] 52)
 have HNX5:=LH (HNX.out.call hal5)
 have HCX5:=LH (HCX.out.call hal5)
 have HRX5:=LH (HRX.out.call hal5)
 have HB5:=LH (zA1 HB4.out hal5)
 clear HNX HCX HRX HB4 d0 d1 SA hal5 HSZ4
 have HNX:=HNX5
 have HCX:=HCX5
 have HRX:=HRX5
 have HB4:=HB5
 clear HNX5 HCX5 HRX5 HB5
 generalize w4.alloc (Obj.cells #[.slice A1 (ApN (recN D n) (recL K m) (chrR 1 C i E j)).length k1,.slice B1 (ApL (recN D n) (recL K m) (chrR 1 C i E j)).length k2] 52)=w5 at HNX HCX HRX HB4⊢
 obtain ⟨d0,d1⟩:=blk2 HNX.out
 have e0:=cA0 HCX.out
 have e1:=cA1 HCX.out
 have e10:=cA10 HCX.out
 go_upto_region 5 with (first
 |(refine wpList_load_row rfl 34 (.tmp 3) rfl _ rfl _ _ (0,0) _ HCX.out Tryz.underlying34 rfl (by kernel_rfl) ?_)
 |(go_at_call 74
   with_reducible refine (SF.out _ HB4.out).mono ?_
   rintro e w5 ⟨rfl,hb4⟩
   clear d0 d1 e0 e1 e10
   obtain ⟨HNX,HCX,HRX,HB4,d0,d1,e0,e1,e10⟩:=bxB HNX HCX HRX HB4 hb4
   clear hb4))
 go_upto_region 6 with (first
 |(go_at_call 69
   with_reducible refine (SC.out _ HB4.out).mono ?_
   rintro e w6 ⟨u,rfl,NM,LM,A2,B2,k3,k4,q1,q2,rfl,hr,hb⟩
   rw [zA3] at hr
   rw [zA4] at hr
   rw [zA3,zA4]
   have HRB:=LH HRX.out.lt
   clear d0 d1 e0 e1 e10
   obtain ⟨HNX,HCX,HRX,HB4,d0,d1,e0,e1,e10⟩:=bxB HNX HCX HRX HB4 hb
   have HCR:=LH hr
   have HQ1:=LH q1
   have HQ2:=LH q2
   clear hr q1 q2 hb))
 have HLN:Hid (NM.length=n∧LM.length=m):=⟨zH0 HQ1.out,zH1 HQ2.out⟩
 have hal7:=Below.alloc (bR w6.heap.size w6) (nl _) (Obj.cells #[.slice A2 n k3,.slice B2 m k4] 52)
 have HOX:Hid (Blk (w6.alloc (Obj.cells #[.slice A2 n k3,.slice B2 m k4] 52)) w6.heap.size 52 #[.slice A2 n k3,.slice B2 m k4]):=Blk.new _ _ _
 have HCR7:=LH (HCR.out.call hal7)
 have HCX7:=LH (HCX.out.call hal7)
 have HRX7:=LH (HRX.out.call hal7)
 have HB7:=LH (zA1 HB4.out hal7)
 clear HNX HCX HRX HB4 d0 d1 e0 e1 e10 hal7 HCR SF SC
 have HRX:=HRX7
 generalize w6.alloc (Obj.cells #[.slice A2 n k3,.slice B2 m k4] 52)=w7 at HOX HCR7 HCX7 HRX7 HRX HB7⊢
 have HNI:Hid (NdIn w7 A2 n (ndsM NM)):=by have h:=(zD9 HCR7.out.on HCR7.out.tn (by have:=HLN.out;have:=HLEN.out;omega)).2;rw [HLN.out.1] at h;exact h
 have HLI:Hid (LkIn w7 B2 m (lksM LM)):=by have h:=(zD3 HCR7.out.ol HCR7.out.tl (by have:=HLN.out;have:=HLEN.out;omega)).2;rw [HLN.out.2] at h;exact h
 obtain ⟨o0,o1⟩:=blk2 HOX.out
 have e0:=cA0 HCX7.out
 have e1:=cA1 HCX7.out
 have e10:=cA10 HCX7.out
 go_wp2_with (first
 |(refine wpList_store_row rfl 34 (.tmp 4) (.tmp 33) rfl (w.heap.size+2) (cNm 3 (C.Nm i)) rfl rfl _ _ HRX.out (by kernel_rfl) rfl (by kernel_rfl) ?_))
 refine bodyPost_ret (v:=.tuple #[.agg (cNm 3 (C.Nm i)),.int .i64 0]) (zB3 Tryz.results33 _ _ (w.heap.size+2) 34 (cNm 3 (C.Nm i)) _ (by rfl) HRX.out.setRow Tryz.underlying34 rfl (by kernel_rfl) _ (by rfl)) rfl ?_
 have HF:Hid (Below w.heap.size w (w7.setRow (w.heap.size+2) (cNm 3 (C.Nm i)))):=zA5 HB7.out HRX.out (by omega)
 refine ⟨3,{ zDn with Nm:=fun _=>C.Nm i },zKl,0,0,by rw [HER.out];rfl,by rw [if_pos HER.out,und_1 rfl];rfl,zC9 _ _ _,zC9 _ _ _,HF.out⟩
set_option maxRecDepth 100000 in
set_option maxHeartbeats 16000000 in
theorem sc_undo2 (NA LA:Option Addr) (n nc0 m lc0 i j:Nat) (D C:Nds) (K E:Lks) (w:World) (hz:ZZ (recN D n) (recL K m)) (hx:ZN (zA7 C i)) (hl:ZL (zA6 E j)) (hD:NdIn w NA n D) (hK:LkIn w LA m K) (hTx:TabIn w (C.SA i) (C.SN i) (C.SX i) (C.SY i)) (hTl:TabIn w (E.CA j) (E.CN j) (E.CX j) (E.CY j)) (he:ApE (recN D n) (recL K m) (chrR 2 C i E j)=0):
 Calls Tryz.prog 33 #[.agg #[.slice NA n nc0,.slice LA m lc0],.agg (chA 2 C i E j)] w (UndPost (recN D n) (recL K m) (chrR 2 C i E j) w):=by
 obtain ⟨W3,hW3,HB4,HNX,HCX,HRX,HSZ3⟩:=bx3 w #[.slice NA n nc0,.slice LA m lc0] (chA 2 C i E j) cZc 52 34 34
 have hok:=zL5 he
 have SA:Hid (∀w',Below w.heap.size w w'→Calls Tryz.prog 31 #[.agg #[.slice NA n nc0,.slice LA m lc0],.agg (chA 2 C i E j)] w' (AplPost (recN D n) (recL K m) (chrR 2 C i E j) w')):=fun w' hb=>zI1 NA LA n nc0 m lc0 i j 2 D C K E w' hz hx hl (zB1 hD hb) (zA9 hK hb) (hTx.below (nl _) hb) (hTl.below (nl _) hb)
 have HER:=LH he
 have HLEN:Hid (n≤300∧m≤400):=⟨by have:=hok.1.n300;rwa [zA3] at this,by have:=hok.1.l400;rwa [zA4] at this⟩
 obtain ⟨at',hat,hfe⟩:=zS7 (hok.2.a2 (.inl rfl))
 have hfe:fnd D.Nm n (C.Nm i)=(at':Int):=hfe
 have HFE:=LH hfe
 have HAT:=LH hat
 obtain ⟨v,hvv⟩:∃v:Int,v=(at':Int):=⟨_,rfl⟩
 have SF:Hid (∀w',Below w.heap.size w w'→Calls Tryz.prog 74 #[.agg #[.slice NA n nc0,.slice LA m lc0],.agg (chA 2 C i E j)] w' fun e w''=>e= .returned (.int .i64 v)∧Below w'.heap.size w' w''):=fun w' hb=>zE3 NA LA (C.SA i) (E.CA j) n nc0 m lc0 (C.SN i) (C.SC i) (E.CN j) (E.CC j) D K 2 (C.Kd i) (C.Ax i) (C.Ay i) (C.Iv i) (C.Gd i) (C.Rs i) (E.Kd j) (E.Ln j) (E.Up j) (E.Dn j) (E.Wd j) (E.Ht j) (C.Nm i) (E.Nm j) (E.Fr j) (E.To j) (E.Sc j) (C.Pt i) w' hz.n2 hz.m2 (zB1 hD hb) (zA9 hK hb) v (by rw [hvv];simp [hfe])
 have SC:Hid (∀w',Below w.heap.size w w'→Calls Tryz.prog 69 #[.agg #[.slice NA n nc0,.slice LA m lc0]] w' fun e w''=>∃u,e= .returned u∧CpPost (recN D n) (recL K m) w' u w''):=fun w' hb=>zD8 NA LA n nc0 m lc0 D K w' hz (zB1 hD hb) (zA9 hK hb)
 subst hvv
 have k0:(0:Int)≤(at':Int):=by omega
 have kk1:(at':Int)<(n:Int):=by omega
 have kk1':at'<n:=hat
 clear hz hx hl hD hK hTx hTl he hok hat hfe
 go_enter Tryz.func33,Tryz.ntmps33
 go_upto_region 1 with fail
 rw [hW3.out]
 clear hW3
 have HSZ4:Hid (w.heap.size+3≤W3.heap.size):=by show _≤_;rw [HSZ3.out];exact nl _
 clear HSZ3
 obtain ⟨d0,d1⟩:=blk2 HNX.out
 go_upto_region 2 with (first
 |(refine wpList_load_row rfl 34 (.tmp 3) rfl _ rfl _ _ (0,0) _ HCX.out Tryz.underlying34 rfl (by kernel_rfl) ?_)
 |(go_at_call 31
   with_reducible refine (SA.out _ HB4.out).mono ?_
   rintro e w4 ⟨u,rfl,NM1,LM1,A1,B1,k1,k2,q1,q2,rfl,hr1,hb1⟩
   have HNX:=LH (HNX.out.call hb1)
   have HCX:=LH (HCX.out.call hb1)
   have HRX:=LH (HRX.out.call hb1)
   have HB4:=LH (zA1 HB4.out hb1)
   have HSZ4:Hid (w.heap.size+3≤w4.heap.size):=nT HSZ4.out hb1.size
   clear hr1 q1 q2 hb1 d0 d1
   obtain ⟨d0,d1⟩:=blk2 HNX.out))
 rw [HER.out]
 have hal5:=Below.alloc (bR w4.heap.size w4) (nl _) (Obj.cells #[.slice A1 (ApN (recN D n) (recL K m) (chrR 2 C i E j)).length k1,.slice B1 (ApL (recN D n) (recL K m) (chrR 2 C i E j)).length k2] 52)
 have HNX5:=LH (HNX.out.call hal5)
 have HCX5:=LH (HCX.out.call hal5)
 have HRX5:=LH (HRX.out.call hal5)
 have HB5:=LH (zA1 HB4.out hal5)
 clear HNX HCX HRX HB4 d0 d1 SA hal5 HSZ4
 have HNX:=HNX5
 have HCX:=HCX5
 have HRX:=HRX5
 have HB4:=HB5
 clear HNX5 HCX5 HRX5 HB5
 generalize w4.alloc (Obj.cells #[.slice A1 (ApN (recN D n) (recL K m) (chrR 2 C i E j)).length k1,.slice B1 (ApL (recN D n) (recL K m) (chrR 2 C i E j)).length k2] 52)=w5 at HNX HCX HRX HB4⊢
 obtain ⟨d0,d1⟩:=blk2 HNX.out
 have e0:=cA0 HCX.out
 have e1:=cA1 HCX.out
 have e10:=cA10 HCX.out
 go_upto_region 5 with (first
 |(refine wpList_load_row rfl 34 (.tmp 3) rfl _ rfl _ _ (0,0) _ HCX.out Tryz.underlying34 rfl (by kernel_rfl) ?_)
 |(go_at_call 74
   with_reducible refine (SF.out _ HB4.out).mono ?_
   rintro e w5 ⟨rfl,hb4⟩
   clear d0 d1 e0 e1 e10
   obtain ⟨HNX,HCX,HRX,HB4,d0,d1,e0,e1,e10⟩:=bxB HNX HCX HRX HB4 hb4
   clear hb4))
 go_upto_region 6 with (first
 |(go_at_call 69
   with_reducible refine (SC.out _ HB4.out).mono ?_
   rintro e w6 ⟨u,rfl,NM,LM,A2,B2,k3,k4,q1,q2,rfl,hr,hb⟩
   rw [zA3] at hr
   rw [zA4] at hr
   rw [zA3,zA4]
   have HRB:=LH HRX.out.lt
   clear d0 d1 e0 e1 e10
   obtain ⟨HNX,HCX,HRX,HB4,d0,d1,e0,e1,e10⟩:=bxB HNX HCX HRX HB4 hb
   have HCR:=LH hr
   have HQ1:=LH q1
   have HQ2:=LH q2
   clear hr q1 q2 hb))
 have HLN:Hid (NM.length=n∧LM.length=m):=⟨zH0 HQ1.out,zH1 HQ2.out⟩
 have hal7:=Below.alloc (bR w6.heap.size w6) (nl _) (Obj.cells #[.slice A2 n k3,.slice B2 m k4] 52)
 have HOX:Hid (Blk (w6.alloc (Obj.cells #[.slice A2 n k3,.slice B2 m k4] 52)) w6.heap.size 52 #[.slice A2 n k3,.slice B2 m k4]):=Blk.new _ _ _
 have HCR7:=LH (HCR.out.call hal7)
 have HCX7:=LH (HCX.out.call hal7)
 have HRX7:=LH (HRX.out.call hal7)
 have HB7:=LH (zA1 HB4.out hal7)
 clear HNX HCX HRX HB4 d0 d1 e0 e1 e10 hal7 HCR SF SC
 have HRX:=HRX7
 generalize w6.alloc (Obj.cells #[.slice A2 n k3,.slice B2 m k4] 52)=w7 at HOX HCR7 HCX7 HRX7 HRX HB7⊢
 have HNI:Hid (NdIn w7 A2 n (ndsM NM)):=by have h:=(zD9 HCR7.out.on HCR7.out.tn (by have:=HLN.out;have:=HLEN.out;omega)).2;rw [HLN.out.1] at h;exact h
 have HLI:Hid (LkIn w7 B2 m (lksM LM)):=by have h:=(zD3 HCR7.out.ol HCR7.out.tl (by have:=HLN.out;have:=HLEN.out;omega)).2;rw [HLN.out.2] at h;exact h
 obtain ⟨o0,o1⟩:=blk2 HOX.out
 have e0:=cA0 HCX7.out
 have e1:=cA1 HCX7.out
 have e10:=cA10 HCX7.out
 obtain ⟨b,off,hA2,_,hC,htab⟩:=HNI.out.at HAT.out
 subst hA2
 have c0:=hC 0 _ rfl
 have c1:=hC 1 _ rfl
 have c2:=hC 2 _ rfl
 have c3:=hC 3 _ rfl
 have c4:=hC 4 _ rfl
 have c5:=hC 5 _ rfl
 have c6:=hC 6 _ rfl
 have c7:=hC 7 _ rfl
 have c8:=hC 8 _ rfl
 simp only [Nat.add_zero] at c0
 have HTB:=LH htab
 clear hC htab
 go_wp2_with (first
 |(refine wpList_store_row rfl 34 (.tmp 4) (.tmp 41) rfl (w.heap.size+2) (cNz 2 (ndsM NM) at') rfl rfl _ _ HRX.out (by kernel_rfl) rfl (by kernel_rfl) ?_))
 refine bodyPost_ret (v:=.tuple #[.agg (cNz 2 (ndsM NM) at'),.int .i64 0]) (zB3 Tryz.results33 _ _ (w.heap.size+2) 34 (cNz 2 (ndsM NM) at') _ (by rfl) HRX.out.setRow Tryz.underlying34 rfl (by kernel_rfl) _ (by rfl)) rfl ?_
 have HF:Hid (Below w.heap.size w (w7.setRow (w.heap.size+2) (cNz 2 (ndsM NM) at'))):=zA5 HB7.out HRX.out (by omega)
 have HTF:Hid (TabIn (w7.setRow (w.heap.size+2) (cNz 2 (ndsM NM) at')) ((ndsM NM).SA at') ((ndsM NM).SN at') ((ndsM NM).SX at') ((ndsM NM).SY at')):=by
  refine HTB.out.grown (zG2 HRX.out) fun hn b2 off2 e3 e4=>?_
  have h1:=Option.some.inj e4
  subst h1
  obtain ⟨p,hp,hpA,hpn⟩:=nd_mem HLN.out.1 HAT.out hn
  have h2:=(HCR7.out.tn p hp).2 hpn (w.heap.size+2) off2 (hpA.trans e3)
  have:=HRB.out
  omega
 refine ⟨2,ndsM NM,zKl,at',0,by rw [HER.out];rfl,by rw [if_pos HER.out,und_2 rfl,show (chrR 2 C i E j).x.nm=C.Nm i from rfl,zJ0,HFE.out,Int.toNat_natCast,←ndM_at HQ1.out];rfl,HTF.out,zC9 _ _ _,HF.out⟩
set_option maxRecDepth 100000 in
set_option maxHeartbeats 16000000 in
theorem sc_undo3 (NA LA:Option Addr) (n nc0 m lc0 i j:Nat) (D C:Nds) (K E:Lks) (w:World) (hz:ZZ (recN D n) (recL K m)) (hx:ZN (zA7 C i)) (hl:ZL (zA6 E j)) (hD:NdIn w NA n D) (hK:LkIn w LA m K) (hTx:TabIn w (C.SA i) (C.SN i) (C.SX i) (C.SY i)) (hTl:TabIn w (E.CA j) (E.CN j) (E.CX j) (E.CY j)) (he:ApE (recN D n) (recL K m) (chrR 3 C i E j)=0):
 Calls Tryz.prog 33 #[.agg #[.slice NA n nc0,.slice LA m lc0],.agg (chA 3 C i E j)] w (UndPost (recN D n) (recL K m) (chrR 3 C i E j) w):=by
 obtain ⟨W3,hW3,HB4,HNX,HCX,HRX,HSZ3⟩:=bx3 w #[.slice NA n nc0,.slice LA m lc0] (chA 3 C i E j) cZc 52 34 34
 have hok:=zL5 he
 have SA:Hid (∀w',Below w.heap.size w w'→Calls Tryz.prog 31 #[.agg #[.slice NA n nc0,.slice LA m lc0],.agg (chA 3 C i E j)] w' (AplPost (recN D n) (recL K m) (chrR 3 C i E j) w')):=fun w' hb=>zI1 NA LA n nc0 m lc0 i j 3 D C K E w' hz hx hl (zB1 hD hb) (zA9 hK hb) (hTx.below (nl _) hb) (hTl.below (nl _) hb)
 have HER:=LH he
 have HLEN:Hid (n≤300∧m≤400):=⟨by have:=hok.1.n300;rwa [zA3] at this,by have:=hok.1.l400;rwa [zA4] at this⟩
 obtain ⟨at',hat,hfe⟩:=zS7 (hok.2.a2 (.inr rfl))
 have hfe:fnd D.Nm n (C.Nm i)=(at':Int):=hfe
 have HFE:=LH hfe
 have HAT:=LH hat
 obtain ⟨v,hvv⟩:∃v:Int,v=(at':Int):=⟨_,rfl⟩
 have SF:Hid (∀w',Below w.heap.size w w'→Calls Tryz.prog 74 #[.agg #[.slice NA n nc0,.slice LA m lc0],.agg (chA 3 C i E j)] w' fun e w''=>e= .returned (.int .i64 v)∧Below w'.heap.size w' w''):=fun w' hb=>zE3 NA LA (C.SA i) (E.CA j) n nc0 m lc0 (C.SN i) (C.SC i) (E.CN j) (E.CC j) D K 3 (C.Kd i) (C.Ax i) (C.Ay i) (C.Iv i) (C.Gd i) (C.Rs i) (E.Kd j) (E.Ln j) (E.Up j) (E.Dn j) (E.Wd j) (E.Ht j) (C.Nm i) (E.Nm j) (E.Fr j) (E.To j) (E.Sc j) (C.Pt i) w' hz.n2 hz.m2 (zB1 hD hb) (zA9 hK hb) v (by rw [hvv];simp [hfe])
 have SC:Hid (∀w',Below w.heap.size w w'→Calls Tryz.prog 69 #[.agg #[.slice NA n nc0,.slice LA m lc0]] w' fun e w''=>∃u,e= .returned u∧CpPost (recN D n) (recL K m) w' u w''):=fun w' hb=>zD8 NA LA n nc0 m lc0 D K w' hz (zB1 hD hb) (zA9 hK hb)
 subst hvv
 have k0:(0:Int)≤(at':Int):=by omega
 have kk1:(at':Int)<(n:Int):=by omega
 have kk1':at'<n:=hat
 clear hz hx hl hD hK hTx hTl he hok hat hfe
 go_enter Tryz.func33,Tryz.ntmps33
 go_upto_region 1 with fail
 rw [hW3.out]
 clear hW3
 have HSZ4:Hid (w.heap.size+3≤W3.heap.size):=by show _≤_;rw [HSZ3.out];exact nl _
 clear HSZ3
 obtain ⟨d0,d1⟩:=blk2 HNX.out
 go_upto_region 2 with (first
 |(refine wpList_load_row rfl 34 (.tmp 3) rfl _ rfl _ _ (0,0) _ HCX.out Tryz.underlying34 rfl (by kernel_rfl) ?_)
 |(go_at_call 31
   with_reducible refine (SA.out _ HB4.out).mono ?_
   rintro e w4 ⟨u,rfl,NM1,LM1,A1,B1,k1,k2,q1,q2,rfl,hr1,hb1⟩
   have HNX:=LH (HNX.out.call hb1)
   have HCX:=LH (HCX.out.call hb1)
   have HRX:=LH (HRX.out.call hb1)
   have HB4:=LH (zA1 HB4.out hb1)
   have HSZ4:Hid (w.heap.size+3≤w4.heap.size):=nT HSZ4.out hb1.size
   clear hr1 q1 q2 hb1 d0 d1
   obtain ⟨d0,d1⟩:=blk2 HNX.out))
 rw [HER.out]
 have hal5:=Below.alloc (bR w4.heap.size w4) (nl _) (Obj.cells #[.slice A1 (ApN (recN D n) (recL K m) (chrR 3 C i E j)).length k1,.slice B1 (ApL (recN D n) (recL K m) (chrR 3 C i E j)).length k2] 52)
 have HNX5:=LH (HNX.out.call hal5)
 have HCX5:=LH (HCX.out.call hal5)
 have HRX5:=LH (HRX.out.call hal5)
 have HB5:=LH (zA1 HB4.out hal5)
 clear HNX HCX HRX HB4 d0 d1 SA hal5 HSZ4
 have HNX:=HNX5
 have HCX:=HCX5
 have HRX:=HRX5
 have HB4:=HB5
 clear HNX5 HCX5 HRX5 HB5
 generalize w4.alloc (Obj.cells #[.slice A1 (ApN (recN D n) (recL K m) (chrR 3 C i E j)).length k1,.slice B1 (ApL (recN D n) (recL K m) (chrR 3 C i E j)).length k2] 52)=w5 at HNX HCX HRX HB4⊢
 obtain ⟨d0,d1⟩:=blk2 HNX.out
 have e0:=cA0 HCX.out
 have e1:=cA1 HCX.out
 have e10:=cA10 HCX.out
 go_upto_region 5 with (first
 |(refine wpList_load_row rfl 34 (.tmp 3) rfl _ rfl _ _ (0,0) _ HCX.out Tryz.underlying34 rfl (by kernel_rfl) ?_)
 |(go_at_call 74
   with_reducible refine (SF.out _ HB4.out).mono ?_
   rintro e w5 ⟨rfl,hb4⟩
   clear d0 d1 e0 e1 e10
   obtain ⟨HNX,HCX,HRX,HB4,d0,d1,e0,e1,e10⟩:=bxB HNX HCX HRX HB4 hb4
   clear hb4))
 go_upto_region 6 with (first
 |(go_at_call 69
   with_reducible refine (SC.out _ HB4.out).mono ?_
   rintro e w6 ⟨u,rfl,NM,LM,A2,B2,k3,k4,q1,q2,rfl,hr,hb⟩
   rw [zA3] at hr
   rw [zA4] at hr
   rw [zA3,zA4]
   have HRB:=LH HRX.out.lt
   clear d0 d1 e0 e1 e10
   obtain ⟨HNX,HCX,HRX,HB4,d0,d1,e0,e1,e10⟩:=bxB HNX HCX HRX HB4 hb
   have HCR:=LH hr
   have HQ1:=LH q1
   have HQ2:=LH q2
   clear hr q1 q2 hb))
 have HLN:Hid (NM.length=n∧LM.length=m):=⟨zH0 HQ1.out,zH1 HQ2.out⟩
 have hal7:=Below.alloc (bR w6.heap.size w6) (nl _) (Obj.cells #[.slice A2 n k3,.slice B2 m k4] 52)
 have HOX:Hid (Blk (w6.alloc (Obj.cells #[.slice A2 n k3,.slice B2 m k4] 52)) w6.heap.size 52 #[.slice A2 n k3,.slice B2 m k4]):=Blk.new _ _ _
 have HCR7:=LH (HCR.out.call hal7)
 have HCX7:=LH (HCX.out.call hal7)
 have HRX7:=LH (HRX.out.call hal7)
 have HB7:=LH (zA1 HB4.out hal7)
 clear HNX HCX HRX HB4 d0 d1 e0 e1 e10 hal7 HCR SF SC
 have HRX:=HRX7
 generalize w6.alloc (Obj.cells #[.slice A2 n k3,.slice B2 m k4] 52)=w7 at HOX HCR7 HCX7 HRX7 HRX HB7⊢
 have HNI:Hid (NdIn w7 A2 n (ndsM NM)):=by have h:=(zD9 HCR7.out.on HCR7.out.tn (by have:=HLN.out;have:=HLEN.out;omega)).2;rw [HLN.out.1] at h;exact h
 have HLI:Hid (LkIn w7 B2 m (lksM LM)):=by have h:=(zD3 HCR7.out.ol HCR7.out.tl (by have:=HLN.out;have:=HLEN.out;omega)).2;rw [HLN.out.2] at h;exact h
 obtain ⟨o0,o1⟩:=blk2 HOX.out
 have e0:=cA0 HCX7.out
 have e1:=cA1 HCX7.out
 have e10:=cA10 HCX7.out
 obtain ⟨b,off,hA2,_,hC,htab⟩:=HNI.out.at HAT.out
 subst hA2
 have c0:=hC 0 _ rfl
 have c1:=hC 1 _ rfl
 have c2:=hC 2 _ rfl
 have c3:=hC 3 _ rfl
 have c4:=hC 4 _ rfl
 have c5:=hC 5 _ rfl
 have c6:=hC 6 _ rfl
 have c7:=hC 7 _ rfl
 have c8:=hC 8 _ rfl
 simp only [Nat.add_zero] at c0
 have HTB:=LH htab
 clear hC htab
 go_wp2_with (first
 |(refine wpList_store_row rfl 34 (.tmp 4) (.tmp 49) rfl (w.heap.size+2) (cNz 1 (ndsM NM) at') rfl rfl _ _ HRX.out (by kernel_rfl) rfl (by kernel_rfl) ?_))
 refine bodyPost_ret (v:=.tuple #[.agg (cNz 1 (ndsM NM) at'),.int .i64 0]) (zB3 Tryz.results33 _ _ (w.heap.size+2) 34 (cNz 1 (ndsM NM) at') _ (by rfl) HRX.out.setRow Tryz.underlying34 rfl (by kernel_rfl) _ (by rfl)) rfl ?_
 have HF:Hid (Below w.heap.size w (w7.setRow (w.heap.size+2) (cNz 1 (ndsM NM) at'))):=zA5 HB7.out HRX.out (by omega)
 have HTF:Hid (TabIn (w7.setRow (w.heap.size+2) (cNz 1 (ndsM NM) at')) ((ndsM NM).SA at') ((ndsM NM).SN at') ((ndsM NM).SX at') ((ndsM NM).SY at')):=by
  refine HTB.out.grown (zG2 HRX.out) fun hn b2 off2 e3 e4=>?_
  have h1:=Option.some.inj e4
  subst h1
  obtain ⟨p,hp,hpA,hpn⟩:=nd_mem HLN.out.1 HAT.out hn
  have h2:=(HCR7.out.tn p hp).2 hpn (w.heap.size+2) off2 (hpA.trans e3)
  have:=HRB.out
  omega
 refine ⟨1,ndsM NM,zKl,at',0,by rw [HER.out];rfl,by rw [if_pos HER.out,und_3 rfl,show (chrR 3 C i E j).x.nm=C.Nm i from rfl,zJ0,HFE.out,Int.toNat_natCast,←ndM_at HQ1.out];rfl,HTF.out,zC9 _ _ _,HF.out⟩
set_option maxRecDepth 100000 in
set_option maxHeartbeats 16000000 in
theorem sc_undo4 (NA LA:Option Addr) (n nc0 m lc0 i j:Nat) (D C:Nds) (K E:Lks) (w:World) (hz:ZZ (recN D n) (recL K m)) (hx:ZN (zA7 C i)) (hl:ZL (zA6 E j)) (hD:NdIn w NA n D) (hK:LkIn w LA m K) (hTx:TabIn w (C.SA i) (C.SN i) (C.SX i) (C.SY i)) (hTl:TabIn w (E.CA j) (E.CN j) (E.CX j) (E.CY j)) (he:ApE (recN D n) (recL K m) (chrR 4 C i E j)=0):
 Calls Tryz.prog 33 #[.agg #[.slice NA n nc0,.slice LA m lc0],.agg (chA 4 C i E j)] w (UndPost (recN D n) (recL K m) (chrR 4 C i E j) w):=by
 obtain ⟨W3,hW3,HB4,HNX,HCX,HRX,HSZ3⟩:=bx3 w #[.slice NA n nc0,.slice LA m lc0] (chA 4 C i E j) cZc 52 34 34
 have hok:=zL5 he
 have SA:Hid (∀w',Below w.heap.size w w'→Calls Tryz.prog 31 #[.agg #[.slice NA n nc0,.slice LA m lc0],.agg (chA 4 C i E j)] w' (AplPost (recN D n) (recL K m) (chrR 4 C i E j) w')):=fun w' hb=>zI1 NA LA n nc0 m lc0 i j 4 D C K E w' hz hx hl (zB1 hD hb) (zA9 hK hb) (hTx.below (nl _) hb) (hTl.below (nl _) hb)
 have HER:=LH he
 have HLEN:Hid (n≤300∧m≤400):=⟨by have:=hok.1.n300;rwa [zA3] at this,by have:=hok.1.l400;rwa [zA4] at this⟩
 obtain ⟨v,hvv⟩:∃v,v=fnd K.Nm m (E.Nm j):=⟨_,rfl⟩
 have SF:Hid (∀w',Below w.heap.size w w'→Calls Tryz.prog 74 #[.agg #[.slice NA n nc0,.slice LA m lc0],.agg (chA 4 C i E j)] w' fun e w''=>e= .returned (.int .i64 v)∧Below w'.heap.size w' w''):=fun w' hb=>zE3 NA LA (C.SA i) (E.CA j) n nc0 m lc0 (C.SN i) (C.SC i) (E.CN j) (E.CC j) D K 4 (C.Kd i) (C.Ax i) (C.Ay i) (C.Iv i) (C.Gd i) (C.Rs i) (E.Kd j) (E.Ln j) (E.Up j) (E.Dn j) (E.Wd j) (E.Ht j) (C.Nm i) (E.Nm j) (E.Fr j) (E.To j) (E.Sc j) (C.Pt i) w' hz.n2 hz.m2 (zB1 hD hb) (zA9 hK hb) v (by rw [hvv];simp)
 have SC:Hid (∀w',Below w.heap.size w w'→Calls Tryz.prog 69 #[.agg #[.slice NA n nc0,.slice LA m lc0]] w' fun e w''=>∃u,e= .returned u∧CpPost (recN D n) (recL K m) w' u w''):=fun w' hb=>zD8 NA LA n nc0 m lc0 D K w' hz (zB1 hD hb) (zA9 hK hb)
 clear hz hx hl hD hK hTx hTl he hok hvv
 go_enter Tryz.func33,Tryz.ntmps33
 go_upto_region 1 with fail
 rw [hW3.out]
 clear hW3
 have HSZ4:Hid (w.heap.size+3≤W3.heap.size):=by show _≤_;rw [HSZ3.out];exact nl _
 clear HSZ3
 obtain ⟨d0,d1⟩:=blk2 HNX.out
 go_upto_region 2 with (first
 |(refine wpList_load_row rfl 34 (.tmp 3) rfl _ rfl _ _ (0,0) _ HCX.out Tryz.underlying34 rfl (by kernel_rfl) ?_)
 |(go_at_call 31
   with_reducible refine (SA.out _ HB4.out).mono ?_
   rintro e w4 ⟨u,rfl,NM1,LM1,A1,B1,k1,k2,q1,q2,rfl,hr1,hb1⟩
   have HNX:=LH (HNX.out.call hb1)
   have HCX:=LH (HCX.out.call hb1)
   have HRX:=LH (HRX.out.call hb1)
   have HB4:=LH (zA1 HB4.out hb1)
   have HSZ4:Hid (w.heap.size+3≤w4.heap.size):=nT HSZ4.out hb1.size
   clear hr1 q1 q2 hb1 d0 d1
   obtain ⟨d0,d1⟩:=blk2 HNX.out))
 rw [HER.out]
 have hal5:=Below.alloc (bR w4.heap.size w4) (nl _) (Obj.cells #[.slice A1 (ApN (recN D n) (recL K m) (chrR 4 C i E j)).length k1,.slice B1 (ApL (recN D n) (recL K m) (chrR 4 C i E j)).length k2] 52)
 have HNX5:=LH (HNX.out.call hal5)
 have HCX5:=LH (HCX.out.call hal5)
 have HRX5:=LH (HRX.out.call hal5)
 have HB5:=LH (zA1 HB4.out hal5)
 clear HNX HCX HRX HB4 d0 d1 SA hal5 HSZ4
 have HNX:=HNX5
 have HCX:=HCX5
 have HRX:=HRX5
 have HB4:=HB5
 clear HNX5 HCX5 HRX5 HB5
 generalize w4.alloc (Obj.cells #[.slice A1 (ApN (recN D n) (recL K m) (chrR 4 C i E j)).length k1,.slice B1 (ApL (recN D n) (recL K m) (chrR 4 C i E j)).length k2] 52)=w5 at HNX HCX HRX HB4⊢
 obtain ⟨d0,d1⟩:=blk2 HNX.out
 have e0:=cA0 HCX.out
 have e1:=cA1 HCX.out
 have e10:=cA10 HCX.out
 go_upto_region 5 with (first
 |(refine wpList_load_row rfl 34 (.tmp 3) rfl _ rfl _ _ (0,0) _ HCX.out Tryz.underlying34 rfl (by kernel_rfl) ?_)
 |(go_at_call 74
   with_reducible refine (SF.out _ HB4.out).mono ?_
   rintro e w5 ⟨rfl,hb4⟩
   clear d0 d1 e0 e1 e10
   obtain ⟨HNX,HCX,HRX,HB4,d0,d1,e0,e1,e10⟩:=bxB HNX HCX HRX HB4 hb4
   clear hb4))
 go_upto_region 6 with (first
 |(go_at_call 69
   with_reducible refine (SC.out _ HB4.out).mono ?_
   rintro e w6 ⟨u,rfl,NM,LM,A2,B2,k3,k4,q1,q2,rfl,hr,hb⟩
   rw [zA3] at hr
   rw [zA4] at hr
   rw [zA3,zA4]
   have HRB:=LH HRX.out.lt
   clear d0 d1 e0 e1 e10
   obtain ⟨HNX,HCX,HRX,HB4,d0,d1,e0,e1,e10⟩:=bxB HNX HCX HRX HB4 hb
   have HCR:=LH hr
   have HQ1:=LH q1
   have HQ2:=LH q2
   clear hr q1 q2 hb))
 have HLN:Hid (NM.length=n∧LM.length=m):=⟨zH0 HQ1.out,zH1 HQ2.out⟩
 have hal7:=Below.alloc (bR w6.heap.size w6) (nl _) (Obj.cells #[.slice A2 n k3,.slice B2 m k4] 52)
 have HOX:Hid (Blk (w6.alloc (Obj.cells #[.slice A2 n k3,.slice B2 m k4] 52)) w6.heap.size 52 #[.slice A2 n k3,.slice B2 m k4]):=Blk.new _ _ _
 have HCR7:=LH (HCR.out.call hal7)
 have HCX7:=LH (HCX.out.call hal7)
 have HRX7:=LH (HRX.out.call hal7)
 have HB7:=LH (zA1 HB4.out hal7)
 clear HNX HCX HRX HB4 d0 d1 e0 e1 e10 hal7 HCR SF SC
 have HRX:=HRX7
 generalize w6.alloc (Obj.cells #[.slice A2 n k3,.slice B2 m k4] 52)=w7 at HOX HCR7 HCX7 HRX7 HRX HB7⊢
 have HNI:Hid (NdIn w7 A2 n (ndsM NM)):=by have h:=(zD9 HCR7.out.on HCR7.out.tn (by have:=HLN.out;have:=HLEN.out;omega)).2;rw [HLN.out.1] at h;exact h
 have HLI:Hid (LkIn w7 B2 m (lksM LM)):=by have h:=(zD3 HCR7.out.ol HCR7.out.tl (by have:=HLN.out;have:=HLEN.out;omega)).2;rw [HLN.out.2] at h;exact h
 obtain ⟨o0,o1⟩:=blk2 HOX.out
 have e0:=cA0 HCX7.out
 have e1:=cA1 HCX7.out
 have e10:=cA10 HCX7.out
 go_wp2_with (first
 |(refine wpList_store_row rfl 34 (.tmp 4) (.tmp 56) rfl (w.heap.size+2) #[.int .i64 6,.string ⟨#[]⟩,.int .i64 0,.int .i64 0,.int .i64 0,.int .i64 0,.int .i64 0,.slice none 0 0,.bool false,.int .i64 0,.string (E.Nm j),.string ⟨#[]⟩,.string ⟨#[]⟩,.int .i64 0,.int .i64 0,.int .i64 0,.int .i64 0,.string ⟨#[]⟩,.int .i64 0,.int .i64 0,.slice none 0 0] rfl rfl _ _ HRX.out (by kernel_rfl) rfl (by kernel_rfl) ?_))
 refine bodyPost_ret (v:=.tuple #[.agg #[.int .i64 6,.string ⟨#[]⟩,.int .i64 0,.int .i64 0,.int .i64 0,.int .i64 0,.int .i64 0,.slice none 0 0,.bool false,.int .i64 0,.string (E.Nm j),.string ⟨#[]⟩,.string ⟨#[]⟩,.int .i64 0,.int .i64 0,.int .i64 0,.int .i64 0,.string ⟨#[]⟩,.int .i64 0,.int .i64 0,.slice none 0 0],.int .i64 0]) (zB3 Tryz.results33 _ _ (w.heap.size+2) 34 #[.int .i64 6,.string ⟨#[]⟩,.int .i64 0,.int .i64 0,.int .i64 0,.int .i64 0,.int .i64 0,.slice none 0 0,.bool false,.int .i64 0,.string (E.Nm j),.string ⟨#[]⟩,.string ⟨#[]⟩,.int .i64 0,.int .i64 0,.int .i64 0,.int .i64 0,.string ⟨#[]⟩,.int .i64 0,.int .i64 0,.slice none 0 0] _ (by rfl) HRX.out.setRow Tryz.underlying34 rfl (by kernel_rfl) _ (by rfl)) rfl ?_
 have HF:Hid (Below w.heap.size w (w7.setRow (w.heap.size+2) #[.int .i64 6,.string ⟨#[]⟩,.int .i64 0,.int .i64 0,.int .i64 0,.int .i64 0,.int .i64 0,.slice none 0 0,.bool false,.int .i64 0,.string (E.Nm j),.string ⟨#[]⟩,.string ⟨#[]⟩,.int .i64 0,.int .i64 0,.int .i64 0,.int .i64 0,.string ⟨#[]⟩,.int .i64 0,.int .i64 0,.slice none 0 0])):=zA5 HB7.out HRX.out (by omega)
 refine ⟨6,zDn,{ zKl with Nm:=fun _=>E.Nm j },0,0,by rw [HER.out];rfl,by rw [if_pos HER.out,und_4 rfl];rfl,zC9 _ _ _,zC9 _ _ _,HF.out⟩
set_option maxRecDepth 100000 in
set_option maxHeartbeats 16000000 in
theorem sc_undo5 (NA LA:Option Addr) (n nc0 m lc0 i j:Nat) (D C:Nds) (K E:Lks) (w:World) (hz:ZZ (recN D n) (recL K m)) (hx:ZN (zA7 C i)) (hl:ZL (zA6 E j)) (hD:NdIn w NA n D) (hK:LkIn w LA m K) (hTx:TabIn w (C.SA i) (C.SN i) (C.SX i) (C.SY i)) (hTl:TabIn w (E.CA j) (E.CN j) (E.CX j) (E.CY j)) (he:ApE (recN D n) (recL K m) (chrR 5 C i E j)=0):
 Calls Tryz.prog 33 #[.agg #[.slice NA n nc0,.slice LA m lc0],.agg (chA 5 C i E j)] w (UndPost (recN D n) (recL K m) (chrR 5 C i E j) w):=by
 obtain ⟨W3,hW3,HB4,HNX,HCX,HRX,HSZ3⟩:=bx3 w #[.slice NA n nc0,.slice LA m lc0] (chA 5 C i E j) cZc 52 34 34
 have hok:=zL5 he
 have SA:Hid (∀w',Below w.heap.size w w'→Calls Tryz.prog 31 #[.agg #[.slice NA n nc0,.slice LA m lc0],.agg (chA 5 C i E j)] w' (AplPost (recN D n) (recL K m) (chrR 5 C i E j) w')):=fun w' hb=>zI1 NA LA n nc0 m lc0 i j 5 D C K E w' hz hx hl (zB1 hD hb) (zA9 hK hb) (hTx.below (nl _) hb) (hTl.below (nl _) hb)
 have HER:=LH he
 have HLEN:Hid (n≤300∧m≤400):=⟨by have:=hok.1.n300;rwa [zA3] at this,by have:=hok.1.l400;rwa [zA4] at this⟩
 obtain ⟨at',hat,hfe⟩:=zS8 (hok.2.a5 (.inl rfl))
 have hfe:fnd K.Nm m (E.Nm j)=(at':Int):=hfe
 have HFE:=LH hfe
 have HAT:=LH hat
 obtain ⟨v,hvv⟩:∃v:Int,v=(at':Int):=⟨_,rfl⟩
 have SF:Hid (∀w',Below w.heap.size w w'→Calls Tryz.prog 74 #[.agg #[.slice NA n nc0,.slice LA m lc0],.agg (chA 5 C i E j)] w' fun e w''=>e= .returned (.int .i64 v)∧Below w'.heap.size w' w''):=fun w' hb=>zE3 NA LA (C.SA i) (E.CA j) n nc0 m lc0 (C.SN i) (C.SC i) (E.CN j) (E.CC j) D K 5 (C.Kd i) (C.Ax i) (C.Ay i) (C.Iv i) (C.Gd i) (C.Rs i) (E.Kd j) (E.Ln j) (E.Up j) (E.Dn j) (E.Wd j) (E.Ht j) (C.Nm i) (E.Nm j) (E.Fr j) (E.To j) (E.Sc j) (C.Pt i) w' hz.n2 hz.m2 (zB1 hD hb) (zA9 hK hb) v (by rw [hvv];simp [hfe])
 have SC:Hid (∀w',Below w.heap.size w w'→Calls Tryz.prog 69 #[.agg #[.slice NA n nc0,.slice LA m lc0]] w' fun e w''=>∃u,e= .returned u∧CpPost (recN D n) (recL K m) w' u w''):=fun w' hb=>zD8 NA LA n nc0 m lc0 D K w' hz (zB1 hD hb) (zA9 hK hb)
 subst hvv
 have k0:(0:Int)≤(at':Int):=by omega
 have kk1:(at':Int)<(m:Int):=by omega
 have kk1':at'<m:=hat
 clear hz hx hl hD hK hTx hTl he hok hat hfe
 go_enter Tryz.func33,Tryz.ntmps33
 go_upto_region 1 with fail
 rw [hW3.out]
 clear hW3
 have HSZ4:Hid (w.heap.size+3≤W3.heap.size):=by show _≤_;rw [HSZ3.out];exact nl _
 clear HSZ3
 obtain ⟨d0,d1⟩:=blk2 HNX.out
 go_upto_region 2 with (first
 |(refine wpList_load_row rfl 34 (.tmp 3) rfl _ rfl _ _ (0,0) _ HCX.out Tryz.underlying34 rfl (by kernel_rfl) ?_)
 |(go_at_call 31
   with_reducible refine (SA.out _ HB4.out).mono ?_
   rintro e w4 ⟨u,rfl,NM1,LM1,A1,B1,k1,k2,q1,q2,rfl,hr1,hb1⟩
   have HNX:=LH (HNX.out.call hb1)
   have HCX:=LH (HCX.out.call hb1)
   have HRX:=LH (HRX.out.call hb1)
   have HB4:=LH (zA1 HB4.out hb1)
   have HSZ4:Hid (w.heap.size+3≤w4.heap.size):=nT HSZ4.out hb1.size
   clear hr1 q1 q2 hb1 d0 d1
   obtain ⟨d0,d1⟩:=blk2 HNX.out))
 rw [HER.out]
 have hal5:=Below.alloc (bR w4.heap.size w4) (nl _) (Obj.cells #[.slice A1 (ApN (recN D n) (recL K m) (chrR 5 C i E j)).length k1,.slice B1 (ApL (recN D n) (recL K m) (chrR 5 C i E j)).length k2] 52)
 have HNX5:=LH (HNX.out.call hal5)
 have HCX5:=LH (HCX.out.call hal5)
 have HRX5:=LH (HRX.out.call hal5)
 have HB5:=LH (zA1 HB4.out hal5)
 clear HNX HCX HRX HB4 d0 d1 SA hal5 HSZ4
 have HNX:=HNX5
 have HCX:=HCX5
 have HRX:=HRX5
 have HB4:=HB5
 clear HNX5 HCX5 HRX5 HB5
 generalize w4.alloc (Obj.cells #[.slice A1 (ApN (recN D n) (recL K m) (chrR 5 C i E j)).length k1,.slice B1 (ApL (recN D n) (recL K m) (chrR 5 C i E j)).length k2] 52)=w5 at HNX HCX HRX HB4⊢
 obtain ⟨d0,d1⟩:=blk2 HNX.out
 have e0:=cA0 HCX.out
 have e1:=cA1 HCX.out
 have e10:=cA10 HCX.out
 go_upto_region 5 with (first
 |(refine wpList_load_row rfl 34 (.tmp 3) rfl _ rfl _ _ (0,0) _ HCX.out Tryz.underlying34 rfl (by kernel_rfl) ?_)
 |(go_at_call 74
   with_reducible refine (SF.out _ HB4.out).mono ?_
   rintro e w5 ⟨rfl,hb4⟩
   clear d0 d1 e0 e1 e10
   obtain ⟨HNX,HCX,HRX,HB4,d0,d1,e0,e1,e10⟩:=bxB HNX HCX HRX HB4 hb4
   clear hb4))
 go_upto_region 6 with (first
 |(go_at_call 69
   with_reducible refine (SC.out _ HB4.out).mono ?_
   rintro e w6 ⟨u,rfl,NM,LM,A2,B2,k3,k4,q1,q2,rfl,hr,hb⟩
   rw [zA3] at hr
   rw [zA4] at hr
   rw [zA3,zA4]
   have HRB:=LH HRX.out.lt
   clear d0 d1 e0 e1 e10
   obtain ⟨HNX,HCX,HRX,HB4,d0,d1,e0,e1,e10⟩:=bxB HNX HCX HRX HB4 hb
   have HCR:=LH hr
   have HQ1:=LH q1
   have HQ2:=LH q2
   clear hr q1 q2 hb))
 have HLN:Hid (NM.length=n∧LM.length=m):=⟨zH0 HQ1.out,zH1 HQ2.out⟩
 have hal7:=Below.alloc (bR w6.heap.size w6) (nl _) (Obj.cells #[.slice A2 n k3,.slice B2 m k4] 52)
 have HOX:Hid (Blk (w6.alloc (Obj.cells #[.slice A2 n k3,.slice B2 m k4] 52)) w6.heap.size 52 #[.slice A2 n k3,.slice B2 m k4]):=Blk.new _ _ _
 have HCR7:=LH (HCR.out.call hal7)
 have HCX7:=LH (HCX.out.call hal7)
 have HRX7:=LH (HRX.out.call hal7)
 have HB7:=LH (zA1 HB4.out hal7)
 clear HNX HCX HRX HB4 d0 d1 e0 e1 e10 hal7 HCR SF SC
 have HRX:=HRX7
 generalize w6.alloc (Obj.cells #[.slice A2 n k3,.slice B2 m k4] 52)=w7 at HOX HCR7 HCX7 HRX7 HRX HB7⊢
 have HNI:Hid (NdIn w7 A2 n (ndsM NM)):=by have h:=(zD9 HCR7.out.on HCR7.out.tn (by have:=HLN.out;have:=HLEN.out;omega)).2;rw [HLN.out.1] at h;exact h
 have HLI:Hid (LkIn w7 B2 m (lksM LM)):=by have h:=(zD3 HCR7.out.ol HCR7.out.tl (by have:=HLN.out;have:=HLEN.out;omega)).2;rw [HLN.out.2] at h;exact h
 obtain ⟨o0,o1⟩:=blk2 HOX.out
 have e0:=cA0 HCX7.out
 have e1:=cA1 HCX7.out
 have e10:=cA10 HCX7.out
 obtain ⟨b,off,hA2,_,hC,htab⟩:=HLI.out.at HAT.out
 subst hA2
 have c0:=hC 0 _ rfl
 have c1:=hC 1 _ rfl
 have c2:=hC 2 _ rfl
 have c3:=hC 3 _ rfl
 have c4:=hC 4 _ rfl
 have c5:=hC 5 _ rfl
 have c6:=hC 6 _ rfl
 have c7:=hC 7 _ rfl
 have c8:=hC 8 _ rfl
 have c9:=hC 9 _ rfl
 have c10:=hC 10 _ rfl
 simp only [Nat.add_zero] at c0
 have HTB:=LH htab
 clear hC htab
 go_wp2_with (first
 |(refine wpList_store_row rfl 34 (.tmp 4) (.tmp 64) rfl (w.heap.size+2) (cLz 5 (lksM LM) at') rfl rfl _ _ HRX.out (by kernel_rfl) rfl (by kernel_rfl) ?_))
 refine bodyPost_ret (v:=.tuple #[.agg (cLz 5 (lksM LM) at'),.int .i64 0]) (zB3 Tryz.results33 _ _ (w.heap.size+2) 34 (cLz 5 (lksM LM) at') _ (by rfl) HRX.out.setRow Tryz.underlying34 rfl (by kernel_rfl) _ (by rfl)) rfl ?_
 have HF:Hid (Below w.heap.size w (w7.setRow (w.heap.size+2) (cLz 5 (lksM LM) at'))):=zA5 HB7.out HRX.out (by omega)
 have HTF:Hid (TabIn (w7.setRow (w.heap.size+2) (cLz 5 (lksM LM) at')) ((lksM LM).CA at') ((lksM LM).CN at') ((lksM LM).CX at') ((lksM LM).CY at')):=by
  refine HTB.out.grown (zG2 HRX.out) fun hn b2 off2 e3 e4=>?_
  have h1:=Option.some.inj e4
  subst h1
  obtain ⟨p,hp,hpA,hpn⟩:=lk_mem HLN.out.2 HAT.out hn
  have h2:=(HCR7.out.tl p hp).2 hpn (w.heap.size+2) off2 (hpA.trans e3)
  have:=HRB.out
  omega
 refine ⟨5,zDn,lksM LM,0,at',by rw [HER.out];rfl,by rw [if_pos HER.out,und_5 rfl,show (chrR 5 C i E j).l.nm=E.Nm j from rfl,zJ1,HFE.out,Int.toNat_natCast,←lkM_at HQ2.out];rfl,zC9 _ _ _,HTF.out,HF.out⟩
set_option maxRecDepth 100000 in
set_option maxHeartbeats 16000000 in
theorem sc_undo6 (NA LA:Option Addr) (n nc0 m lc0 i j:Nat) (D C:Nds) (K E:Lks) (w:World) (hz:ZZ (recN D n) (recL K m)) (hx:ZN (zA7 C i)) (hl:ZL (zA6 E j)) (hD:NdIn w NA n D) (hK:LkIn w LA m K) (hTx:TabIn w (C.SA i) (C.SN i) (C.SX i) (C.SY i)) (hTl:TabIn w (E.CA j) (E.CN j) (E.CX j) (E.CY j)) (he:ApE (recN D n) (recL K m) (chrR 6 C i E j)=0):
 Calls Tryz.prog 33 #[.agg #[.slice NA n nc0,.slice LA m lc0],.agg (chA 6 C i E j)] w (UndPost (recN D n) (recL K m) (chrR 6 C i E j) w):=by
 obtain ⟨W3,hW3,HB4,HNX,HCX,HRX,HSZ3⟩:=bx3 w #[.slice NA n nc0,.slice LA m lc0] (chA 6 C i E j) cZc 52 34 34
 have hok:=zL5 he
 have SA:Hid (∀w',Below w.heap.size w w'→Calls Tryz.prog 31 #[.agg #[.slice NA n nc0,.slice LA m lc0],.agg (chA 6 C i E j)] w' (AplPost (recN D n) (recL K m) (chrR 6 C i E j) w')):=fun w' hb=>zI1 NA LA n nc0 m lc0 i j 6 D C K E w' hz hx hl (zB1 hD hb) (zA9 hK hb) (hTx.below (nl _) hb) (hTl.below (nl _) hb)
 have HER:=LH he
 have HLEN:Hid (n≤300∧m≤400):=⟨by have:=hok.1.n300;rwa [zA3] at this,by have:=hok.1.l400;rwa [zA4] at this⟩
 obtain ⟨at',hat,hfe⟩:=zS8 (hok.2.a5 (.inr rfl))
 have hfe:fnd K.Nm m (E.Nm j)=(at':Int):=hfe
 have HFE:=LH hfe
 have HAT:=LH hat
 obtain ⟨v,hvv⟩:∃v:Int,v=(at':Int):=⟨_,rfl⟩
 have SF:Hid (∀w',Below w.heap.size w w'→Calls Tryz.prog 74 #[.agg #[.slice NA n nc0,.slice LA m lc0],.agg (chA 6 C i E j)] w' fun e w''=>e= .returned (.int .i64 v)∧Below w'.heap.size w' w''):=fun w' hb=>zE3 NA LA (C.SA i) (E.CA j) n nc0 m lc0 (C.SN i) (C.SC i) (E.CN j) (E.CC j) D K 6 (C.Kd i) (C.Ax i) (C.Ay i) (C.Iv i) (C.Gd i) (C.Rs i) (E.Kd j) (E.Ln j) (E.Up j) (E.Dn j) (E.Wd j) (E.Ht j) (C.Nm i) (E.Nm j) (E.Fr j) (E.To j) (E.Sc j) (C.Pt i) w' hz.n2 hz.m2 (zB1 hD hb) (zA9 hK hb) v (by rw [hvv];simp [hfe])
 have SC:Hid (∀w',Below w.heap.size w w'→Calls Tryz.prog 69 #[.agg #[.slice NA n nc0,.slice LA m lc0]] w' fun e w''=>∃u,e= .returned u∧CpPost (recN D n) (recL K m) w' u w''):=fun w' hb=>zD8 NA LA n nc0 m lc0 D K w' hz (zB1 hD hb) (zA9 hK hb)
 subst hvv
 have k0:(0:Int)≤(at':Int):=by omega
 have kk1:(at':Int)<(m:Int):=by omega
 have kk1':at'<m:=hat
 clear hz hx hl hD hK hTx hTl he hok hat hfe
 go_enter Tryz.func33,Tryz.ntmps33
 go_upto_region 1 with fail
 rw [hW3.out]
 clear hW3
 have HSZ4:Hid (w.heap.size+3≤W3.heap.size):=by show _≤_;rw [HSZ3.out];exact nl _
 clear HSZ3
 obtain ⟨d0,d1⟩:=blk2 HNX.out
 go_upto_region 2 with (first
 |(refine wpList_load_row rfl 34 (.tmp 3) rfl _ rfl _ _ (0,0) _ HCX.out Tryz.underlying34 rfl (by kernel_rfl) ?_)
 |(go_at_call 31
   with_reducible refine (SA.out _ HB4.out).mono ?_
   rintro e w4 ⟨u,rfl,NM1,LM1,A1,B1,k1,k2,q1,q2,rfl,hr1,hb1⟩
   have HNX:=LH (HNX.out.call hb1)
   have HCX:=LH (HCX.out.call hb1)
   have HRX:=LH (HRX.out.call hb1)
   have HB4:=LH (zA1 HB4.out hb1)
   have HSZ4:Hid (w.heap.size+3≤w4.heap.size):=nT HSZ4.out hb1.size
   clear hr1 q1 q2 hb1 d0 d1
   obtain ⟨d0,d1⟩:=blk2 HNX.out))
 rw [HER.out]
 have hal5:=Below.alloc (bR w4.heap.size w4) (nl _) (Obj.cells #[.slice A1 (ApN (recN D n) (recL K m) (chrR 6 C i E j)).length k1,.slice B1 (ApL (recN D n) (recL K m) (chrR 6 C i E j)).length k2] 52)
 have HNX5:=LH (HNX.out.call hal5)
 have HCX5:=LH (HCX.out.call hal5)
 have HRX5:=LH (HRX.out.call hal5)
 have HB5:=LH (zA1 HB4.out hal5)
 clear HNX HCX HRX HB4 d0 d1 SA hal5 HSZ4
 have HNX:=HNX5
 have HCX:=HCX5
 have HRX:=HRX5
 have HB4:=HB5
 clear HNX5 HCX5 HRX5 HB5
 generalize w4.alloc (Obj.cells #[.slice A1 (ApN (recN D n) (recL K m) (chrR 6 C i E j)).length k1,.slice B1 (ApL (recN D n) (recL K m) (chrR 6 C i E j)).length k2] 52)=w5 at HNX HCX HRX HB4⊢
 obtain ⟨d0,d1⟩:=blk2 HNX.out
 have e0:=cA0 HCX.out
 have e1:=cA1 HCX.out
 have e10:=cA10 HCX.out
 go_upto_region 5 with (first
 |(refine wpList_load_row rfl 34 (.tmp 3) rfl _ rfl _ _ (0,0) _ HCX.out Tryz.underlying34 rfl (by kernel_rfl) ?_)
 |(go_at_call 74
   with_reducible refine (SF.out _ HB4.out).mono ?_
   rintro e w5 ⟨rfl,hb4⟩
   clear d0 d1 e0 e1 e10
   obtain ⟨HNX,HCX,HRX,HB4,d0,d1,e0,e1,e10⟩:=bxB HNX HCX HRX HB4 hb4
   clear hb4))
 go_upto_region 6 with (first
 |(go_at_call 69
   with_reducible refine (SC.out _ HB4.out).mono ?_
   rintro e w6 ⟨u,rfl,NM,LM,A2,B2,k3,k4,q1,q2,rfl,hr,hb⟩
   rw [zA3] at hr
   rw [zA4] at hr
   rw [zA3,zA4]
   have HRB:=LH HRX.out.lt
   clear d0 d1 e0 e1 e10
   obtain ⟨HNX,HCX,HRX,HB4,d0,d1,e0,e1,e10⟩:=bxB HNX HCX HRX HB4 hb
   have HCR:=LH hr
   have HQ1:=LH q1
   have HQ2:=LH q2
   clear hr q1 q2 hb))
 have HLN:Hid (NM.length=n∧LM.length=m):=⟨zH0 HQ1.out,zH1 HQ2.out⟩
 have hal7:=Below.alloc (bR w6.heap.size w6) (nl _) (Obj.cells #[.slice A2 n k3,.slice B2 m k4] 52)
 have HOX:Hid (Blk (w6.alloc (Obj.cells #[.slice A2 n k3,.slice B2 m k4] 52)) w6.heap.size 52 #[.slice A2 n k3,.slice B2 m k4]):=Blk.new _ _ _
 have HCR7:=LH (HCR.out.call hal7)
 have HCX7:=LH (HCX.out.call hal7)
 have HRX7:=LH (HRX.out.call hal7)
 have HB7:=LH (zA1 HB4.out hal7)
 clear HNX HCX HRX HB4 d0 d1 e0 e1 e10 hal7 HCR SF SC
 have HRX:=HRX7
 generalize w6.alloc (Obj.cells #[.slice A2 n k3,.slice B2 m k4] 52)=w7 at HOX HCR7 HCX7 HRX7 HRX HB7⊢
 have HNI:Hid (NdIn w7 A2 n (ndsM NM)):=by have h:=(zD9 HCR7.out.on HCR7.out.tn (by have:=HLN.out;have:=HLEN.out;omega)).2;rw [HLN.out.1] at h;exact h
 have HLI:Hid (LkIn w7 B2 m (lksM LM)):=by have h:=(zD3 HCR7.out.ol HCR7.out.tl (by have:=HLN.out;have:=HLEN.out;omega)).2;rw [HLN.out.2] at h;exact h
 obtain ⟨o0,o1⟩:=blk2 HOX.out
 have e0:=cA0 HCX7.out
 have e1:=cA1 HCX7.out
 have e10:=cA10 HCX7.out
 obtain ⟨b,off,hA2,_,hC,htab⟩:=HLI.out.at HAT.out
 subst hA2
 have c0:=hC 0 _ rfl
 have c1:=hC 1 _ rfl
 have c2:=hC 2 _ rfl
 have c3:=hC 3 _ rfl
 have c4:=hC 4 _ rfl
 have c5:=hC 5 _ rfl
 have c6:=hC 6 _ rfl
 have c7:=hC 7 _ rfl
 have c8:=hC 8 _ rfl
 have c9:=hC 9 _ rfl
 have c10:=hC 10 _ rfl
 simp only [Nat.add_zero] at c0
 have HTB:=LH htab
 clear hC htab
 go_wp2_with (first
 |(refine wpList_store_row rfl 34 (.tmp 4) (.tmp 70) rfl (w.heap.size+2) (cLz 4 (lksM LM) at') rfl rfl _ _ HRX.out (by kernel_rfl) rfl (by kernel_rfl) ?_))
 refine bodyPost_ret (v:=.tuple #[.agg (cLz 4 (lksM LM) at'),.int .i64 0]) (zB3 Tryz.results33 _ _ (w.heap.size+2) 34 (cLz 4 (lksM LM) at') _ (by rfl) HRX.out.setRow Tryz.underlying34 rfl (by kernel_rfl) _ (by rfl)) rfl ?_
 have HF:Hid (Below w.heap.size w (w7.setRow (w.heap.size+2) (cLz 4 (lksM LM) at'))):=zA5 HB7.out HRX.out (by omega)
 have HTF:Hid (TabIn (w7.setRow (w.heap.size+2) (cLz 4 (lksM LM) at')) ((lksM LM).CA at') ((lksM LM).CN at') ((lksM LM).CX at') ((lksM LM).CY at')):=by
  refine HTB.out.grown (zG2 HRX.out) fun hn b2 off2 e3 e4=>?_
  have h1:=Option.some.inj e4
  subst h1
  obtain ⟨p,hp,hpA,hpn⟩:=lk_mem HLN.out.2 HAT.out hn
  have h2:=(HCR7.out.tl p hp).2 hpn (w.heap.size+2) off2 (hpA.trans e3)
  have:=HRB.out
  omega
 refine ⟨4,zDn,lksM LM,0,at',by rw [HER.out];rfl,by rw [if_pos HER.out,und_6 rfl,show (chrR 6 C i E j).l.nm=E.Nm j from rfl,zJ1,HFE.out,Int.toNat_natCast,←lkM_at HQ2.out];rfl,zC9 _ _ _,HTF.out,HF.out⟩
theorem sc_Undo (NA LA:Option Addr) (n nc0 m lc0 i j:Nat) (kd:Int) (D C:Nds) (K E:Lks) (w:World) (hz:ZZ (recN D n) (recL K m)) (hx:ZN (zA7 C i)) (hl:ZL (zA6 E j)) (hD:NdIn w NA n D) (hK:LkIn w LA m K) (hTx:TabIn w (C.SA i) (C.SN i) (C.SX i) (C.SY i)) (hTl:TabIn w (E.CA j) (E.CN j) (E.CX j) (E.CY j)):
 Calls Tryz.prog 33 #[.agg #[.slice NA n nc0,.slice LA m lc0],.agg (chA kd C i E j)] w (UndPost (recN D n) (recL K m) (chrR kd C i E j) w):=by
 by_cases he:ApE (recN D n) (recL K m) (chrR kd C i E j)=0
 ·have hk:kd=1∨kd=2∨kd=3∨kd=4∨kd=5∨kd=6:=by
   have h:1≤kd∧kd≤6:=(zL5 he).2.kd
   omega
  rcases hk with rfl |rfl |rfl |rfl |rfl |rfl
  ·exact sc_undo1 NA LA n nc0 m lc0 i j D C K E w hz hx hl hD hK hTx hTl he
  ·exact sc_undo2 NA LA n nc0 m lc0 i j D C K E w hz hx hl hD hK hTx hTl he
  ·exact sc_undo3 NA LA n nc0 m lc0 i j D C K E w hz hx hl hD hK hTx hTl he
  ·exact sc_undo4 NA LA n nc0 m lc0 i j D C K E w hz hx hl hD hK hTx hTl he
  ·exact sc_undo5 NA LA n nc0 m lc0 i j D C K E w hz hx hl hD hK hTx hTl he
  ·exact sc_undo6 NA LA n nc0 m lc0 i j D C K E w hz hx hl hD hK hTx hTl he
 ·exact sc_undoE NA LA n nc0 m lc0 i j kd D C K E w hz hx hl hD hK hTx hTl he
end Go.Proofs.YtchakniaoeodmaaGreatDoor

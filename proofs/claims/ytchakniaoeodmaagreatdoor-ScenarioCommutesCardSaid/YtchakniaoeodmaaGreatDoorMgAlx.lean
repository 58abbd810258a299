/- Merged texts of these proofs: ScAlP, ScAll, ScAlQ, ScAlB. -/
import Derived.Test.YtchakniaoeodmaaGreatDoorMgAw
import Derived.Test.YtchakniaoeodmaaGreatDoorNetW
namespace Go.Proofs.YtchakniaoeodmaaGreatDoor
open Go.RowKit
set_option linter.unusedVariables false
set_option linter.unusedSimpArgs false
structure AlI (w wr:World) (N:List Ndr) (L:List Lkr) (Kd:Nat→Int) (D:Nds) (K:Lks) (i:Nat) (NM:List Ndm) (LM:List Lkm) (A B:Option Addr) (n m c d B0:Nat):Prop where
 q1:ndx NM=aN N (recC Kd D K i)
 q2:lkx LM=aL L (recC Kd D K i)
 l1:NM.length=n
 l2:LM.length=m
 vs:VS (ndx NM) (lkx LM)
 ok:okA N L (recC Kd D K i)
 hr:CpR B0 NM LM (.slice A n c) (.slice B m d) wr
 hB:w.heap.size+1<B0
 bx:Blk wr w.heap.size 52 #[.slice A n c,.slice B m d]
 rx:Blk wr (w.heap.size+1) 52 #[.slice none 0 0,.slice none 0 0]
 bl:Below w.heap.size w wr
theorem AlI.call {w wr:World} {N:List Ndr} {L:List Lkr} {Kd:Nat→Int} {D:Nds} {K:Lks} {i:Nat} {NM:List Ndm} {LM:List Lkm} {A B:Option Addr} {n m c d B0:Nat} {w':World} (h:AlI w wr N L Kd D K i NM LM A B n m c d B0) (hb:Below wr.heap.size wr w'):AlI w w' N L Kd D K i NM LM A B n m c d B0:=
 ⟨h.q1,h.q2,h.l1,h.l2,h.vs,h.ok,h.hr.call hb,h.hB,h.bx.call hb,h.rx.call hb,zA1 h.bl hb⟩
theorem AlI.n3 {w wr:World} {N:List Ndr} {L:List Lkr} {Kd:Nat→Int} {D:Nds} {K:Lks} {i:Nat} {NM:List Ndm} {LM:List Lkm} {A B:Option Addr} {n m c d B0:Nat} (h:AlI w wr N L Kd D K i NM LM A B n m c d B0):n≤300∧m≤400:=by
 have a:=h.vs.n300
 have b:=h.vs.l400
 unfold ndx at a
 unfold lkx at b
 rw [List.length_map,h.l1] at a
 rw [List.length_map,h.l2] at b
 exact ⟨a,b⟩
theorem CpR.nets {W:World} {NM:List Ndm} {LM:List Lkm} {A B:Option Addr} {n m c d B0:Nat} (h:CpR B0 NM LM (.slice A n c) (.slice B m d) W) (l1:NM.length=n) (l2:LM.length=m) (b1:n≤2000) (b2:m≤2000):NdIn W A n (ndsM NM)∧LkIn W B m (lksM LM):=by
 have g1:=(zI5 h.on h.tn (by omega)).2
 have g2:=(zG6 h.ol h.tl (by omega)).2
 rw [l1] at g1
 rw [l2] at g2
 exact ⟨g1,g2⟩
theorem AlI.nets {w wr:World} {N:List Ndr} {L:List Lkr} {Kd:Nat→Int} {D:Nds} {K:Lks} {i:Nat} {NM:List Ndm} {LM:List Lkm} {A B:Option Addr} {n m c d B0:Nat} (h:AlI w wr N L Kd D K i NM LM A B n m c d B0):NdIn wr A n (ndsM NM)∧LkIn wr B m (lksM LM):=by
 have b:=h.n3
 exact h.hr.nets h.l1 h.l2 (by omega) (by omega)
theorem AlI.low2 {w wr:World} {N:List Ndr} {L:List Lkr} {Kd:Nat→Int} {D:Nds} {K:Lks} {i:Nat} {NM:List Ndm} {LM:List Lkm} {A B:Option Addr} {n m c d B0:Nat} (h:AlI w wr N L Kd D K i NM LM A B n m c d B0) (x y:Value):NdIn ((wr.setCell ⟨w.heap.size+1,0,none⟩ x).setCell ⟨w.heap.size+1,1,none⟩ y) A n (ndsM NM)∧LkIn ((wr.setCell ⟨w.heap.size+1,0,none⟩ x).setCell ⟨w.heap.size+1,1,none⟩ y) B m (lksM LM):=by
 have b:=h.n3
 exact ((h.hr.low h.hB 0 x).low h.hB 1 y).nets h.l1 h.l2 (by omega) (by omega)
theorem AlI.r1 {w wr:World} {N:List Ndr} {L:List Lkr} {Kd:Nat→Int} {D:Nds} {K:Lks} {i:Nat} {NM:List Ndm} {LM:List Lkm} {A B:Option Addr} {n m c d B0:Nat} (h:AlI w wr N L Kd D K i NM LM A B n m c d B0):recN (ndsM NM) n=ndx NM:=zL8 h.l1
theorem AlI.r2 {w wr:World} {N:List Ndr} {L:List Lkr} {Kd:Nat→Int} {D:Nds} {K:Lks} {i:Nat} {NM:List Ndm} {LM:List Lkm} {A B:Option Addr} {n m c d B0:Nat} (h:AlI w wr N L Kd D K i NM LM A B n m c d B0):recL (lksM LM) m=lkx LM:=zM0 h.l2
def AllR (N:List Ndr) (L:List Lkr) (Kd:Nat→Int) (D:Nds) (K:Lks) (len:Nat) (w:World) (e:Ending) (w':World):Prop:=
 (okA N L (recC Kd D K len)∧∃(X:Nds) (Y:Lks) (A B:Option Addr) (n m c d:Nat),e= .returned (.tuple #[.agg #[.slice A n c,.slice B m d],.int .i64 (len:Int),.int .i64 0])∧recN X n=aN N (recC Kd D K len)∧recL Y m=aL L (recC Kd D K len)∧NdIn w' A n X∧LkIn w' B m Y∧Below w.heap.size w w')∨
 (∃(k:Nat) (er:Int),k<len∧okA N L (recC Kd D K k)∧apE (aN N (recC Kd D K k)) (aL L (recC Kd D K k)) (chrR (Kd k) D k K k)=er∧er≠0∧e= .returned (.tuple #[.agg #[.slice none 0 0,.slice none 0 0],.int .i64 (k:Int),.int .i64 er])∧Below w.heap.size w w')
theorem AlI.step {w wr:World} {N:List Ndr} {L:List Lkr} {Kd:Nat→Int} {D:Nds} {K:Lks} {i:Nat} {NM:List Ndm} {LM:List Lkm} {A B:Option Addr} {n m c d B0:Nat} {W:World} {i':Nat} {NM2:List Ndm} {LM2:List Lkm} {A2 B2:Option Addr} {n2 m2 c2 d2 B1:Nat} (h:AlI w wr N L Kd D K i NM LM A B n m c d B0) (hi:i'=i+1) (he:apE (ndx NM) (lkx LM) (chrR (Kd i) D i K i)=0)
 (q1:ndx NM2=opN (ndx NM) (chrR (Kd i) D i K i)) (q2:lkx LM2=opL (lkx LM) (chrR (Kd i) D i K i)) (l1:(opN (ndx NM) (chrR (Kd i) D i K i)).length=n2) (l2:(opL (lkx LM) (chrR (Kd i) D i K i)).length=m2)
 (hr:CpR B1 NM2 LM2 (.slice A2 n2 c2) (.slice B2 m2 d2) W) (hB:w.heap.size+1<B1) (bx:Blk W w.heap.size 52 #[.slice A2 n2 c2,.slice B2 m2 d2]) (rx:Blk W (w.heap.size+1) 52 #[.slice none 0 0,.slice none 0 0]) (bl:Below w.heap.size w W):
 AlI w W N L Kd D K i' NM2 LM2 A2 B2 n2 m2 c2 d2 B1:=by
 subst hi
 have n1:NM2.length=n2:=by rw [←l1,←q1];unfold ndx;simp
 have m1:LM2.length=m2:=by rw [←l2,←q2];unfold lkx;simp
 have hv:=(op_ok h.vs ((zP5 h.vs).1 he)).2.2
 refine ⟨by rw [q1,zF3,aN_snoc,h.q1],by rw [q2,zF3,aL_snoc,h.q2],n1,m1,by rw [q1,q2];exact hv,?_,hr,hB,bx,rx,bl⟩
 rw [zF3,zM8]
 refine ⟨h.ok,?_⟩
 rw [←h.q1,←h.q2]
 exact he
theorem AlI.first {w W:World} {N:List Ndr} {L:List Lkr} {Kd:Nat→Int} {D:Nds} {K:Lks} {NM:List Ndm} {LM:List Lkm} {A2 B2:Option Addr} {n2 m2 c2 d2 B0:Nat} (hv:VS N L) (q1:ndx NM=N) (q2:lkx LM=L) (l1:N.length=n2) (l2:L.length=m2)
 (hr:CpR B0 NM LM (.slice A2 n2 c2) (.slice B2 m2 d2) W) (hB:w.heap.size+1<B0) (bx:Blk W w.heap.size 52 #[.slice A2 n2 c2,.slice B2 m2 d2]) (rx:Blk W (w.heap.size+1) 52 #[.slice none 0 0,.slice none 0 0]) (bl:Below w.heap.size w W):
 AlI w W N L Kd D K 0 NM LM A2 B2 n2 m2 c2 d2 B0:=by
 have n1:NM.length=n2:=by rw [←l1,←q1];unfold ndx;simp
 have m1:LM.length=m2:=by rw [←l2,←q2];unfold lkx;simp
 exact ⟨by rw [q1];rfl,by rw [q2];rfl,n1,m1,by rw [q1,q2];exact hv,trivial,hr,hB,bx,rx,bl⟩
set_option maxRecDepth 100000 in
set_option maxHeartbeats 32000000 in
theorem sc_ApplyAll (NA LA CA:Option Addr) (n nc0 m lc0 len cc:Nat) (Dn:Nds) (Kl:Lks) (Kd:Nat→Int) (D:Nds) (K:Lks) (w:World) (hv:VS (recN Dn n) (recL Kl m)) (hlen:len≤1000) (hD:NdIn w NA n Dn) (hK:LkIn w LA m Kl) (hC:ChsIn w CA len Kd D K) (hz:∀k,k<len→ZN (zA7 D k)∧ZL (zA5 K k)):
 Calls Tryz.prog 25 #[.agg #[.slice NA n nc0,.slice LA m lc0],.slice CA len cc] w (AllR (recN Dn n) (recL Kl m) Kd D K len w):=by
 have HAL:Hid (Below w.heap.size w ((w.alloc (Obj.cells #[.slice NA n nc0,.slice LA m lc0] 52)).alloc (Obj.cells #[.slice none 0 0,.slice none 0 0] 52))):=((bR _ w).alloc (nl _) _).alloc (by simp) _
 have HNX:Hid (Blk ((w.alloc (Obj.cells #[.slice NA n nc0,.slice LA m lc0] 52)).alloc (Obj.cells #[.slice none 0 0,.slice none 0 0] 52)) w.heap.size 52 #[.slice NA n nc0,.slice LA m lc0]):=(Blk.new _ _ _).alloc _
 have HRX:Hid (Blk ((w.alloc (Obj.cells #[.slice NA n nc0,.slice LA m lc0] 52)).alloc (Obj.cells #[.slice none 0 0,.slice none 0 0] 52)) (w.heap.size+1) 52 #[.slice none 0 0,.slice none 0 0]):=by have h:=Blk.new (w.alloc (Obj.cells #[.slice NA n nc0,.slice LA m lc0] 52)) 52 #[.slice none 0 0,.slice none 0 0];rw [zB0] at h;exact h
 have hzz:=hv.zz
 have HVS:=LH hv
 have HLEN:=LH hlen
 have HLN:Hid (n≤300∧m≤400):=⟨by have:=hv.n300;rwa [zA3] at this,by have:=hv.l400;rwa [zA4] at this⟩
 have HCH:=LH hC
 have HZ:=LH hz
 have SV:Hid (∀w',Below w.heap.size w w'→Calls Tryz.prog 68 #[.agg #[.slice NA n nc0,.slice LA m lc0]] w' fun e w''=>e= .returned (.bool true)∧Below w'.heap.size w' w''):=fun w' hb=>by
  have h:=zF4 NA LA n nc0 m lc0 Dn Kl hzz.sz w' (zB3 hD hb) (zB1 hK hb)
  rw [zA2 hv.to] at h
  exact h
 have SC:Hid (∀w',Below w.heap.size w w'→Calls Tryz.prog 69 #[.agg #[.slice NA n nc0,.slice LA m lc0]] w' fun e w''=>∃u,e= .returned u∧CpPost (recN Dn n) (recL Kl m) w' u w''):=fun w' hb=>zF2 NA LA n nc0 m lc0 Dn Kl w' hzz (zB3 hD hb) (zB1 hK hb)
 have t1:decide ((1000:Int)<(len:Int))=false:=dF (by omega)
 have t2:decide (1000<len)=false:=dF (by omega)
 clear hv hlen hD hK hC hz hzz
 go_enter Tryz.func25,Tryz.ntmps25
 go_upto_region 1 with fail
 generalize (w.alloc (Obj.cells #[.slice NA n nc0,.slice LA m lc0] 52)).alloc (Obj.cells #[.slice none 0 0,.slice none 0 0] 52)=w4 at HAL HNX HRX⊢
 obtain ⟨d0,d1⟩:=blk2 HNX.out
 go_upto_region 5 with (first
  |(go_at_call 68
    with_reducible refine (SV.out _ HAL.out).mono ?_
    rintro e w4 ⟨rfl,hb4⟩
    have HNX:=LH (HNX.out.call hb4)
    have HRX:=LH (HRX.out.call hb4)
    have HAL:=LH (zA1 HAL.out hb4)
    clear d0 d1 hb4
    obtain ⟨d0,d1⟩:=blk2 HNX.out))
 go_upto_region 6 with (first
  |(go_at_call 69
    with_reducible refine (SC.out _ HAL.out).mono ?_
    rintro e w5 ⟨u,rfl,NM,LM,A1,B1,c1,e1,q1,q2,rfl,hr,hb5⟩
    rw [zA3] at hr
    rw [zA4] at hr
    rw [zA3,zA4]
    have HNX5:=LH (HNX.out.call hb5)
    have HRX5:=LH (HRX.out.call hb5)
    have HB5:=LH (zA1 HAL.out hb5)
    have HCR:=LH hr
    have HQ:=LH (And.intro q1 q2)
    clear d0 d1 hr q1 q2 hb5
    obtain ⟨d0,d1⟩:=blk2 HNX5.out
    have h0:=HNX5.out.frozen 0
    have h1:=HNX5.out.frozen 1))
 have HM0:Hid (AlI w ((w5.setCell ⟨w.heap.size,0,none⟩ (.slice A1 n c1)).setCell ⟨w.heap.size,1,none⟩ (.slice B1 m e1)) (recN Dn n) (recL Kl m) Kd D K 0 NM LM A1 B1 n m c1 e1 w4.heap.size):=by
  have hb:w.heap.size+1<w4.heap.size:=HRX.out.lt
  have ha:w.heap.size<w4.heap.size:=by omega
  exact AlI.first HVS.out HQ.out.1 HQ.out.2 (zA3 _ _) (zA4 _ _) ((HCR.out.low ha 0 _).low ha 1 _) hb ((HNX5.out.set_ 0 _).set_ 1 _) ((HRX5.out.far (p:=⟨w.heap.size,0,none⟩) (by show w.heap.size+1≠w.heap.size;omega) _).far (p:=⟨w.heap.size,1,none⟩) (by show w.heap.size+1≠w.heap.size;omega) _) ((HB5.out.setCell (p:=⟨w.heap.size,0,none⟩) (nl _) _).setCell (p:=⟨w.heap.size,1,none⟩) (nl _) _)
 clear HAL HNX HRX HNX5 HRX5 HB5 HCR HQ d0 d1 h0 h1 SV SC
 generalize (w5.setCell ⟨w.heap.size,0,none⟩ (.slice A1 n c1)).setCell ⟨w.heap.size,1,none⟩ (.slice B1 m e1)=w6 at HM0⊢
 go_wp2_with fail
 go_loopw [25] (fun v wr=>∃(i:Nat) (NM:List Ndm) (LM:List Lkm) (A B:Option Addr) (n' m' c d B0:Nat),Hid (i≤len)∧v= .int .i64 i∧Hid (AlI w wr (recN Dn n) (recL Kl m) Kd D K i NM LM A B n' m' c d B0)) (fun v _=>len - (RowKit.intOf v).toNat)
 case atStart=>exact ⟨0,NM,LM,A1,B1,n,m,c1,e1,_,Nat.zero_le _,rfl,HM0⟩
 case round=>
  clear HM0
  obtain ⟨i,NM1,LM1,A,B,n',m',c,d,B0,Hi,rfl,HM⟩:=hrel
  obtain ⟨d0,d1⟩:=blk2 HM.out.bx
  obtain ⟨r0,r1⟩:=blk2 HM.out.rx
  have f0:=HM.out.rx.frozen 0
  have f1:=HM.out.rx.frozen 1
  by_cases hlt:i<len
  case neg=>
   have T0:decide ((i:Int)<(len:Int))=false:=by simp<;> omega
   have T0':decide (i<len)=false:=dF hlt
   have e:i=len:=by have:=Hi.out;omega
   subst e
   have HRS:=LH ((HM.out.rx.set_ 0 (.slice A n' c)).set_ 1 (.slice B m' d))
   obtain ⟨z0,z1⟩:=blk2 HRS.out
   have HBE:Hid (Below w.heap.size w ((wr.setCell ⟨w.heap.size+1,0,none⟩ (.slice A n' c)).setCell ⟨w.heap.size+1,1,none⟩ (.slice B m' d))):=(HM.out.bl.setCell (p:=⟨w.heap.size+1,0,none⟩) (by show w.heap.size≤w.heap.size+1;omega) _).setCell (p:=⟨w.heap.size+1,1,none⟩) (by show w.heap.size≤w.heap.size+1;omega) _
   have HNE:=HM.out.low2 (.slice A n' c) (.slice B m' d)
   have HN2:=LH HNE
   clear hlt HNE
   go_wp2_with fail
   refine bodyPost_ret (v:=.tuple #[.agg #[.slice A n' c,.slice B m' d],.int .i64 (i:Int),.int .i64 0]) (by simp [results,Tryz.results25,go_sem,z0,z1]) rfl ?_
   exact .inl ⟨HM.out.ok,ndsM NM1,lksM LM1,A,B,n',m',c,d,rfl,HM.out.r1.trans HM.out.q1,HM.out.r2.trans HM.out.q2,HN2.out.1,HN2.out.2,HBE.out⟩
  have T0:decide ((i:Int)<(len:Int))=true:=by simp<;> omega
  have T0':decide (i<len)=true:=dU hlt
  obtain ⟨i',hi'⟩:∃z,z=i+1:=⟨_,rfl⟩
  have x0:IntKind.i64.wrap ((i:Int)+1)=(i':Int):=by have:=HLEN.out;rw [IntKind.wrap_i64];omega
  have k0:(0:Int)≤(i:Int):=by omega
  have k1:(i:Int)<(len:Int):=by omega
  have HMS:Hid (len - (RowKit.intOf (Value.int .i64 (i':Int))).toNat<len - (RowKit.intOf (Value.int .i64 (i:Int))).toNat):=by show _<_;simp [RowKit.intOf];omega
  have HI':Hid (i'≤len∧i'=i+1):=⟨by omega,hi'⟩
  have HLT:=LH hlt
  obtain ⟨bC,off,hCA,hbC,hcC,ht1,ht2⟩:=(HCH.out.below (nl _) HM.out.bl).at hlt
  subst hCA
  have HC:Hid (wr.rangeAt bC (off+i*21) [.int .i64 (Kd i),.string (D.Nm i),.int .i64 (D.Kd i),.int .i64 (D.Ax i),.int .i64 (D.Ay i),.int .i64 (D.Iv i),.int .i64 (D.Gd i),.slice (D.SA i) (D.SN i) (D.SC i),.bool (D.Pt i),.int .i64 (D.Rs i),.string (K.Nm i),.string (K.Fr i),.string (K.To i),.int .i64 (K.Kd i),.int .i64 (K.Ln i),.int .i64 (K.Up i),.int .i64 (K.Dn i),.string (K.Sc i),.int .i64 (K.Wd i),.int .i64 (K.Ht i),.slice (K.CA i) (K.CN i) (K.CC i)]):=hcC
  have HT:=LH (And.intro ht1 ht2)
  have SA:Hid (∀w',Below wr.heap.size wr w'→Calls Tryz.prog 70 #[.agg #[.slice A n' c,.slice B m' d],.agg (chA (Kd i) D i K i)] w' (ApPost (ndx NM1) (lkx LM1) (chrR (Kd i) D i K i) w')):=fun w' hb=>by
   have hnt:=HM.out.nets
   have h:=sc_apply A B n' c m' d i i (Kd i) (ndsM NM1) D (lksM LM1) K w' (by rw [HM.out.r1,HM.out.r2];exact HM.out.vs) (HZ.out i hlt).1 (HZ.out i hlt).2 (zB3 hnt.1 hb) (zB1 hnt.2 hb) (HT.out.1.below (nl _) hb) (HT.out.2.below (nl _) hb)
   rw [HM.out.r1,HM.out.r2] at h
   exact h
  clear hi' hlt hbC hcC ht1 ht2
  go_upto_region 9 with (first
   |(refine wpList_load_mid rfl 34 (.tmp 28) rfl bC (off+i*21) rfl _ _ HC.out Tryz.underlying34 rfl (by kernel_rfl) ?_)
   |(refine wpList_store_row rfl 34 (.tmp 8) (.tmp 29) rfl wr.heap.size (chA (Kd i) D i K i) rfl rfl _ _ (Blk.new wr _ _) (by kernel_rfl) rfl (by kernel_rfl) ?_))
  have hal:Below wr.heap.size wr ((wr.alloc (Obj.cells cZc 34)).setRow wr.heap.size (chA (Kd i) D i K i)):=zB4 ((bR _ wr).alloc (nl _) _) (Blk.new wr 34 _) (nl _)
  have HX:Hid (Blk ((wr.alloc (Obj.cells cZc 34)).setRow wr.heap.size (chA (Kd i) D i K i)) wr.heap.size 34 (chA (Kd i) D i K i)):=(Blk.new wr 34 _).setRow
  have HQ4:=LH hal
  clear hal d0 d1 r0 r1 f0 f1 HC
  generalize (wr.alloc (Obj.cells cZc 34)).setRow wr.heap.size (chA (Kd i) D i K i)=w4 at HX HQ4⊢
  generalize wr.heap.size=G at HX⊢
  have HM4:=LH (HM.out.call HQ4.out)
  obtain ⟨d0,d1⟩:=blk2 HM4.out.bx
  obtain ⟨er,her⟩:∃er,apE (ndx NM1) (lkx LM1) (chrR (Kd i) D i K i)=er:=⟨_,rfl⟩
  obtain ⟨n2,hn2⟩:∃k,(apN (ndx NM1) (lkx LM1) (chrR (Kd i) D i K i)).length=k:=⟨_,rfl⟩
  obtain ⟨m2,hm2⟩:∃k,(apL (ndx NM1) (lkx LM1) (chrR (Kd i) D i K i)).length=k:=⟨_,rfl⟩
  have HER:=LH her
  have HNL:=LH (And.intro hn2 hm2)
  clear her hn2 hm2
  go_upto_region 10 with (first
   |(refine wpList_load_row rfl 34 (.tmp 8) rfl _ rfl _ _ (0,0) _ HX.out Tryz.underlying34 rfl (by kernel_rfl) ?_)
   |(go_at_call 70
     with_reducible refine (SA.out _ HQ4.out).mono ?_
     rintro e w5 ⟨u,rfl,NM,LM,A2,B2,c2,e2,q1,q2,rfl,hr,hb5⟩
     rw [HNL.out.1] at hr
     rw [HNL.out.2] at hr
     rw [HNL.out.1,HNL.out.2,HER.out]
     have HM5:=LH (HM4.out.call hb5)
     have HCR:=LH hr
     have HQ:=LH (And.intro q1 q2)
     have HW5:=LH hb5
     clear d0 d1 hr q1 q2 hb5))
  have hal6:Below w5.heap.size w5 (w5.alloc (Obj.cells #[.slice A2 n2 c2,.slice B2 m2 e2] 52)):=(bR _ w5).alloc (nl _) _
  have HY:Hid (Blk (w5.alloc (Obj.cells #[.slice A2 n2 c2,.slice B2 m2 e2] 52)) w5.heap.size 52 #[.slice A2 n2 c2,.slice B2 m2 e2]):=Blk.new _ _ _
  have HM6:=LH (HM5.out.call hal6)
  have HCR6:=LH (HCR.out.call hal6)
  have HSZ:Hid (w.heap.size+1<w4.heap.size):=HM4.out.rx.lt
  have HGN:Hid (w5.heap.size≠w.heap.size):=by have:=HM5.out.bx.lt;show _≠_;omega
  clear HM5 HCR hal6 HM4 HW5
  generalize w5.alloc (Obj.cells #[.slice A2 n2 c2,.slice B2 m2 e2] 52)=w6' at HY HM6 HCR6⊢
  generalize w5.heap.size=GY at HY HGN⊢
  obtain ⟨d0,d1⟩:=blk2 HM6.out.bx
  obtain ⟨r0,r1⟩:=blk2 HM6.out.rx
  obtain ⟨y0,y1⟩:=blk2 HY.out
  by_cases he:er=0
  case neg=>
   have t0:(er !=0)=true:=by simpa using he
   have f0:=HM6.out.rx.frozen 0
   have f1:=HM6.out.rx.frozen 1
   have HRS:=LH ((HM6.out.rx.set_ 0 (.slice none 0 0)).set_ 1 (.slice none 0 0))
   obtain ⟨z0,z1⟩:=blk2 HRS.out
   have HBE:Hid (Below w.heap.size w ((w6'.setCell ⟨w.heap.size+1,0,none⟩ (.slice none 0 0)).setCell ⟨w.heap.size+1,1,none⟩ (.slice none 0 0))):=(HM6.out.bl.setCell (p:=⟨w.heap.size+1,0,none⟩) (by show w.heap.size≤w.heap.size+1;omega) _).setCell (p:=⟨w.heap.size+1,1,none⟩) (by show w.heap.size≤w.heap.size+1;omega) _
   have HNE:=LH he
   clear he
   go_wp2_with fail
   refine bodyPost_ret (v:=.tuple #[.agg #[.slice none 0 0,.slice none 0 0],.int .i64 (i:Int),.int .i64 er]) (by simp [results,Tryz.results25,go_sem,z0,z1]) rfl ?_
   exact .inr ⟨i,er,HLT.out,HM.out.ok,by rw [←HM.out.q1,←HM.out.q2];exact HER.out,HNE.out,rfl,HBE.out⟩
  subst he
  have h0:=HM6.out.bx.frozen 0
  have h1:=HM6.out.bx.frozen 1
  have HST:Hid (AlI w ((w6'.setCell ⟨w.heap.size,0,none⟩ (.slice A2 n2 c2)).setCell ⟨w.heap.size,1,none⟩ (.slice B2 m2 e2)) (recN Dn n) (recL Kl m) Kd D K i' NM LM A2 B2 n2 m2 c2 e2 w4.heap.size):=by
   have ea:apN (ndx NM1) (lkx LM1) (chrR (Kd i) D i K i)=opN (ndx NM1) (chrR (Kd i) D i K i):=if_pos HER.out
   have eb:apL (ndx NM1) (lkx LM1) (chrR (Kd i) D i K i)=opL (lkx LM1) (chrR (Kd i) D i K i):=if_pos HER.out
   have q:=HQ.out
   have l:=HNL.out
   rw [ea,eb] at q l
   exact HM.out.step HI'.out.2 HER.out q.1 q.2 l.1 l.2 ((HCR6.out.low (show w.heap.size<w4.heap.size by have:=HSZ.out;omega) 0 _).low (show w.heap.size<w4.heap.size by have:=HSZ.out;omega) 1 _) HSZ.out ((HM6.out.bx.set_ 0 _).set_ 1 _) ((HM6.out.rx.far (p:=⟨w.heap.size,0,none⟩) (by show w.heap.size+1≠w.heap.size;omega) _).far (p:=⟨w.heap.size,1,none⟩) (by show w.heap.size+1≠w.heap.size;omega) _) ((HM6.out.bl.setCell (p:=⟨w.heap.size,0,none⟩) (nl _) _).setCell (p:=⟨w.heap.size,1,none⟩) (nl _) _)
  go_wp2_with fail
  go_roundw
  case rel=>exact ⟨i',NM,LM,A2,B2,n2,m2,c2,e2,_,HI'.out.1,rfl,HST⟩
  case measure=>exact HMS.out
def AlG (N:List Ndr) (L:List Lkr) (n m k:Nat) (er:Int) (w:World) (e:Ending) (w':World):Prop:=∃(X:Nds) (Y:Lks) (A B:Option Addr) (c d:Nat),e= .returned (.tuple #[.agg #[.slice A n c,.slice B m d],.int .i64 (k:Int),.int .i64 er])∧recN X n=N∧recL Y m=L∧NdIn w' A n X∧LkIn w' B m Y∧Below w.heap.size w w'
theorem zW0 {k:Nat} {er:Int} {w w':World} {e:Ending} (he:e= .returned (.tuple #[.agg #[.slice none 0 0,.slice none 0 0],.int .i64 (k:Int),.int .i64 er])) (hb:Below w.heap.size w w'):AlG [] [] 0 0 k er w e w':=
 ⟨ndsM [],lksM [],none,none,0,0,he,rfl,rfl,⟨by omega,.inl rfl⟩,⟨by omega,.inl rfl⟩,hb⟩
theorem okA_first {N:List Ndr} {L:List Lkr} {Kd:Nat→Int} {D:Nds} {K:Lks}:∀(len:Nat),¬okA N L (recC Kd D K len)→∃k,k<len∧okA N L (recC Kd D K k)∧apE (aN N (recC Kd D K k)) (aL L (recC Kd D K k)) (chrR (Kd k) D k K k)≠0
 |0,h=>absurd (show okA N L [] from trivial) h
 |len+1,h=>by
  by_cases g:okA N L (recC Kd D K len)
  ·refine ⟨len,by omega,g,fun q=>h ?_⟩
   rw [zF3,zM8]
   exact ⟨g,q⟩
  ·obtain ⟨k,hk,a,b⟩:=okA_first len g
   exact ⟨k,by omega,a,b⟩
theorem okA_cut {N:List Ndr} {L:List Lkr} {Kd:Nat→Int} {D:Nds} {K:Lks}:∀(q k:Nat),okA N L (recC Kd D K (k+q))→okA N L (recC Kd D K k)
 |0,k,h=>h
 |q+1,k,h=>by
  rw [←Nat.add_assoc,zF3,zM8] at h
  exact okA_cut q k h.1
theorem okA_lt {N:List Ndr} {L:List Lkr} {Kd:Nat→Int} {D:Nds} {K:Lks} {k len:Nat} (h:okA N L (recC Kd D K len)) (hk:k<len):apE (aN N (recC Kd D K k)) (aL L (recC Kd D K k)) (chrR (Kd k) D k K k)=0:=by
 have hq:okA N L (recC Kd D K (k+1)):=okA_cut (len - (k+1)) (k+1) (by rw [show k+1+(len - (k+1))=len by omega];exact h)
 rw [zF3,zM8] at hq
 exact hq.2
end Go.Proofs.YtchakniaoeodmaaGreatDoor

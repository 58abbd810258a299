/- The reference's ApplyAll. Written by gen_srall.py. -/
import Derived.Test.YtchakniaoeodmaaGreatDoorMgAll
import Derived.Test.YtchakniaoeodmaaGreatDoorMgSr
import Derived.Test.YtchakniaoeodmaaGreatDoorScW
import Derived.Deep.MidRow
namespace Go.Proofs.YtchakniaoeodmaaGreatDoor
open Go.RowKit
set_option linter.unusedVariables false
set_option linter.unusedSimpArgs false
set_option maxRecDepth 100000 in
set_option maxHeartbeats 8000000 in
theorem r_ApplyAll (NA LA CA:Option Addr) (n nc0 m lc0 len cc:Nat) (Dn:Nds) (Kl:Lks) (Kd:Nat→Int) (D:Nds) (K:Lks) (w:World) (hv:VS (recN Dn n) (recL Kl m)) (hlen:len≤1000) (hD:NdIn w NA n Dn) (hK:LkIn w LA m Kl) (hC:ChsIn w CA len Kd D K) (hz:∀k,k<len→ZN (zA7 D k)∧ZL (zA5 K k)):
 Calls Tryz.prog 26 #[.agg #[.slice NA n nc0,.slice LA m lc0],.slice CA len cc] w (AllR (recN Dn n) (recL Kl m) Kd D K len w):=by
 have HAL:Hid (Below w.heap.size w ((w.alloc (Obj.cells #[.slice NA n nc0,.slice LA m lc0] 52)).alloc (Obj.cells #[.slice none 0 0,.slice none 0 0] 52))):=((bR _ w).alloc (nl _) _).alloc (by simp) _
 have HNX:Hid (Blk ((w.alloc (Obj.cells #[.slice NA n nc0,.slice LA m lc0] 52)).alloc (Obj.cells #[.slice none 0 0,.slice none 0 0] 52)) w.heap.size 52 #[.slice NA n nc0,.slice LA m lc0]):=(Blk.new _ _ _).alloc _
 have HRX:Hid (Blk ((w.alloc (Obj.cells #[.slice NA n nc0,.slice LA m lc0] 52)).alloc (Obj.cells #[.slice none 0 0,.slice none 0 0] 52)) (w.heap.size+1) 52 #[.slice none 0 0,.slice none 0 0]):=by have h:=Blk.new (w.alloc (Obj.cells #[.slice NA n nc0,.slice LA m lc0] 52)) 52 #[.slice none 0 0,.slice none 0 0];rw [zB0] at h;exact h
 have hzz:=hv.zz
 have HVS:=LH hv
 have HLEN:=LH hlen
 have HCH:=LH hC
 have HZ:=LH hz
 have HDK:=LH (And.intro hD hK)
 have SV:Hid (∀w',Below w.heap.size w w'→Calls Tryz.prog 28 #[.agg #[.slice NA n nc0,.slice LA m lc0]] w' fun e w''=>e= .returned (.bool true)∧Below w'.heap.size w' w''):=fun w' hb=>by
  have h:=zD2 NA LA n nc0 m lc0 Dn Kl hzz.sz w' (zB3 hD hb) (zB1 hK hb)
  rw [zA2 hv.to] at h
  exact h
 have t1:decide ((1000:Int)<(len:Int))=false:=dF (by omega)
 have t2:decide (1000<len)=false:=dF (by omega)
 clear hv hlen hD hK hC hz hzz
 go_enter Tryz.func26,Tryz.ntmps26
 go_upto_region 1 with fail
 generalize (w.alloc (Obj.cells #[.slice NA n nc0,.slice LA m lc0] 52)).alloc (Obj.cells #[.slice none 0 0,.slice none 0 0] 52)=w4 at HAL HNX HRX⊢
 obtain ⟨d0,d1⟩:=blk2 HNX.out
 go_upto_region 5 with (first
  |(go_at_call 28
    with_reducible refine (SV.out _ HAL.out).mono ?_
    rintro e w4 ⟨rfl,hb4⟩
    have HNX:=LH (HNX.out.call hb4)
    have HRX:=LH (HRX.out.call hb4)
    have HAL:=LH (zA1 HAL.out hb4)
    clear d0 d1 hb4
    obtain ⟨d0,d1⟩:=blk2 HNX.out))
 have HM0:=LH (AlJ.first (Kd:=Kd) (D:=D) (K:=K) HVS.out HDK.out.1 HDK.out.2 HNX.out HRX.out HAL.out)
 clear HAL HNX HRX d0 d1 SV
 go_wp2_with fail
 go_loopw [7] (fun v wr=>∃(i:Nat) (X:Nds) (Y:Lks) (A B:Option Addr) (n' m' c d:Nat),Hid (i≤len)∧v= .int .i64 i∧Hid (AlJ w wr (recN Dn n) (recL Kl m) Kd D K i X Y A B n' m' c d)) (fun v _=>len - (RowKit.intOf v).toNat)
 case atStart=>exact ⟨0,Dn,Kl,NA,LA,n,m,nc0,lc0,Nat.zero_le _,rfl,HM0⟩
 case round=>
  clear HM0
  obtain ⟨i,X,Y,A,B,n',m',c,d,Hi,rfl,HM⟩:=hrel
  obtain ⟨d0,d1⟩:=blk2 HM.out.bx
  obtain ⟨r0,r1⟩:=blk2 HM.out.rx
  have f0:=HM.out.rx.frozen 0
  have f1:=HM.out.rx.frozen 1
  by_cases hlt:i<len
  case neg=>
   have T0:decide ((i:Int)<(len:Int))=false:=by simp<;> omega
   have T0':decide (i<len)=false:=dF hlt
   have e:i=len:=by have:=Hi.out;omega
   subst e
   have SC:Hid (Calls Tryz.prog 35 #[.agg #[.slice A n' c,.slice B m' d]] wr fun e w''=>∃u,e= .returned u∧CpPost (recN X n') (recL Y m') wr u w''):=by
        have hq:=HM.out.vs.zz
        exact zO3 A B n' c m' d X Y wr hq.n2 hq.m2 hq.sn hq.cn HM.out.nets.1 HM.out.nets.2
   clear hlt
   go_upto_region 12 with fail
   go_wp2_with (first
        |(go_at_call 35
          with_reducible refine SC.out.mono ?_
          rintro e w5 ⟨u,rfl,NM,LM,A1,B1,c1,e1,q1,q2,rfl,hr,hb5⟩
          rw [zA3] at hr
          rw [zA4] at hr
          rw [zA3,zA4]
          have HM5:=LH (HM.out.call hb5)
          have HCR:=LH hr
          have HQ:=LH (And.intro q1 q2)
          have HSZ:Hid (w.heap.size+1<wr.heap.size):=HM.out.rx.lt
          clear d0 d1 r0 r1 f0 f1 hr q1 q2 hb5
          obtain ⟨r0,r1⟩:=blk2 HM5.out.rx
          have f0:=HM5.out.rx.frozen 0
          have f1:=HM5.out.rx.frozen 1
          have HRS:=LH ((HM5.out.rx.set_ 0 (.slice A1 n' c1)).set_ 1 (.slice B1 m' e1))
          obtain ⟨z0,z1⟩:=blk2 HRS.out
          have HBE:Hid (Below w.heap.size w ((w5.setCell ⟨w.heap.size+1,0,none⟩ (.slice A1 n' c1)).setCell ⟨w.heap.size+1,1,none⟩ (.slice B1 m' e1))):=(HM5.out.bl.setCell (p:=⟨w.heap.size+1,0,none⟩) (by show w.heap.size≤w.heap.size+1;omega) _).setCell (p:=⟨w.heap.size+1,1,none⟩) (by show w.heap.size≤w.heap.size+1;omega) _
          have HN2:Hid (NdIn ((w5.setCell ⟨w.heap.size+1,0,none⟩ (.slice A1 n' c1)).setCell ⟨w.heap.size+1,1,none⟩ (.slice B1 m' e1)) A1 n' (ndsM NM)∧LkIn ((w5.setCell ⟨w.heap.size+1,0,none⟩ (.slice A1 n' c1)).setCell ⟨w.heap.size+1,1,none⟩ (.slice B1 m' e1)) B1 m' (lksM LM)):=by
           have hb:=HM.out.n3
           exact ((HCR.out.low HSZ.out 0 _).low HSZ.out 1 _).nets (ndx_len' HQ.out.1) (lkx_len' HQ.out.2) (by omega) (by omega)))
   refine bodyPost_ret (v:=.tuple #[.agg #[.slice A1 n' c1,.slice B1 m' e1],.int .i64 (i:Int),.int .i64 0]) (by simp [results,Tryz.results26,go_sem,z0,z1]) rfl ?_
   exact .inl ⟨HM.out.ok,ndsM NM,lksM LM,A1,B1,n',m',c1,e1,rfl,(zL8 (ndx_len' HQ.out.1)).trans (HQ.out.1.trans HM.out.q1),(zM0 (lkx_len' HQ.out.2)).trans (HQ.out.2.trans HM.out.q2),HN2.out.1,HN2.out.2,HBE.out⟩
  have T0:decide ((i:Int)<(len:Int))=true:=by simp<;> omega
  have T0':decide (i<len)=true:=dU hlt
  obtain ⟨i',hi'⟩:∃z,z=i+1:=⟨_,rfl⟩
  have x0:IntKind.i64.wrap ((i:Int)+1)=(i':Int):=by have:=HLEN.out;rw [IntKind.wrap_i64];omega
  have k0:(0:Int)≤(i:Int):=by omega
  have k1:(i:Int)<(len:Int):=by omega
  have k2:i<len:=hlt
  have HMS:Hid (len - (RowKit.intOf (Value.int .i64 (i':Int))).toNat<len - (RowKit.intOf (Value.int .i64 (i:Int))).toNat):=by show _<_;simp [RowKit.intOf];omega
  have HI':Hid (i'≤len∧i'=i+1):=⟨by omega,hi'⟩
  have HLT:=LH hlt
  obtain ⟨bC,off,hCA,hbC,hcC,ht1,ht2⟩:=(HCH.out.below (nl _) HM.out.bl).at hlt
  subst hCA
  have HC:Hid (wr.rangeAt bC (off+i*21) [.int .i64 (Kd i),.string (D.Nm i),.int .i64 (D.Kd i),.int .i64 (D.Ax i),.int .i64 (D.Ay i),.int .i64 (D.Iv i),.int .i64 (D.Gd i),.slice (D.SA i) (D.SN i) (D.SC i),.bool (D.Pt i),.int .i64 (D.Rs i),.string (K.Nm i),.string (K.Fr i),.string (K.To i),.int .i64 (K.Kd i),.int .i64 (K.Ln i),.int .i64 (K.Up i),.int .i64 (K.Dn i),.string (K.Sc i),.int .i64 (K.Wd i),.int .i64 (K.Ht i),.slice (K.CA i) (K.CN i) (K.CC i)]):=hcC
  have HBC:=LH hbC
  have HT:=LH (And.intro ht1 ht2)
  have SA:Hid (∀w',Below wr.heap.size wr w'→Calls Tryz.prog 32 #[.agg #[.slice A n' c,.slice B m' d],.agg #[.int .i64 (Kd i),.string (D.Nm i),.int .i64 (D.Kd i),.int .i64 (D.Ax i),.int .i64 (D.Ay i),.int .i64 (D.Iv i),.int .i64 (D.Gd i),.slice (D.SA i) (D.SN i) (D.SC i),.bool (D.Pt i),.int .i64 (D.Rs i),.string (K.Nm i),.string (K.Fr i),.string (K.To i),.int .i64 (K.Kd i),.int .i64 (K.Ln i),.int .i64 (K.Up i),.int .i64 (K.Dn i),.string (K.Sc i),.int .i64 (K.Wd i),.int .i64 (K.Ht i),.slice (K.CA i) (K.CN i) (K.CC i)]] w' (ApPost (recN X n') (recL Y m') (chrR (Kd i) D i K i) w')):=fun w' hb=>by
   have hnt:=HM.out.nets
   have h:=r_Apply A B n' c m' d i i (Kd i) X D Y K w' HM.out.vs.zz (HZ.out i hlt).1 (HZ.out i hlt).2 (zB3 hnt.1 hb) (zB1 hnt.2 hb) (HT.out.1.below (nl _) hb) (HT.out.2.below (nl _) hb)
   exact h.mono fun e w'' q=>ap_of HM.out.vs q
  obtain ⟨er,her⟩:∃er,apE (recN X n') (recL Y m') (chrR (Kd i) D i K i)=er:=⟨_,rfl⟩
  obtain ⟨n2,hn2⟩:∃k,(apN (recN X n') (recL Y m') (chrR (Kd i) D i K i)).length=k:=⟨_,rfl⟩
  obtain ⟨m2,hm2⟩:∃k,(apL (recN X n') (recL Y m') (chrR (Kd i) D i K i)).length=k:=⟨_,rfl⟩
  have HER:=LH her
  have HNL:=LH (And.intro hn2 hm2)
  have HS:Hid (∀w',Below wr.heap.size wr w'→(fun w'=>w'.cell? ⟨w.heap.size,0,none⟩=some (.slice A n' c)∧w'.cell? ⟨w.heap.size,1,none⟩=some (.slice B m' d)∧w'.rangeAt bC (off+i*21) [.int .i64 (Kd i),.string (D.Nm i),.int .i64 (D.Kd i),.int .i64 (D.Ax i),.int .i64 (D.Ay i),.int .i64 (D.Iv i),.int .i64 (D.Gd i),.slice (D.SA i) (D.SN i) (D.SC i),.bool (D.Pt i),.int .i64 (D.Rs i),.string (K.Nm i),.string (K.Fr i),.string (K.To i),.int .i64 (K.Kd i),.int .i64 (K.Ln i),.int .i64 (K.Up i),.int .i64 (K.Dn i),.string (K.Sc i),.int .i64 (K.Wd i),.int .i64 (K.Ht i),.slice (K.CA i) (K.CN i) (K.CC i)]) w'):=fun w' hb=>by
   obtain ⟨q0,q1⟩:=blk2 (HM.out.bx.call hb)
   exact ⟨q0,q1,CellsAt.below HC.out hb HBC.out⟩
  clear hi' hlt hbC hcC ht1 ht2 her hn2 hm2
  have HSZ:Hid (w.heap.size+1<wr.heap.size):=HM.out.rx.lt
  go_upto_region 8 with fail
  go_cut [8,9] from 24 to 32 (fun s t wx=>∃(GY:Nat) (NM:List Ndm) (LM:List Lkm) (A2 B2:Option Addr) (c2 e2:Nat),s= .pointer (some ⟨GY,0,none⟩)∧t= .int .i64 er∧Hid (ndx NM=apN (recN X n') (recL Y m') (chrR (Kd i) D i K i)∧lkx LM=apL (recN X n') (recL Y m') (chrR (Kd i) D i K i))∧Hid (AlJ w wx (recN Dn n) (recL Kl m) Kd D K i X Y A B n' m' c d)∧Hid (Blk wx GY 52 #[.slice A2 n2 c2,.slice B2 m2 e2])∧Hid (CpR wr.heap.size NM LM (.slice A2 n2 c2) (.slice B2 m2 e2) wx)∧Hid (wr.heap.size≤GY))
  case first=>
   refine wp_region_held_drew (S:=(fun w'=>w'.cell? ⟨w.heap.size,0,none⟩=some (.slice A n' c)∧w'.cell? ⟨w.heap.size,1,none⟩=some (.slice B m' d)∧w'.rangeAt bC (off+i*21) [.int .i64 (Kd i),.string (D.Nm i),.int .i64 (D.Kd i),.int .i64 (D.Ax i),.int .i64 (D.Ay i),.int .i64 (D.Iv i),.int .i64 (D.Gd i),.slice (D.SA i) (D.SN i) (D.SC i),.bool (D.Pt i),.int .i64 (D.Rs i),.string (K.Nm i),.string (K.Fr i),.string (K.To i),.int .i64 (K.Kd i),.int .i64 (K.Ln i),.int .i64 (K.Up i),.int .i64 (K.Dn i),.string (K.Sc i),.int .i64 (K.Wd i),.int .i64 (K.Ht i),.slice (K.CA i) (K.CN i) (K.CC i)])) (by kernel_rfl) ?_ (fun hHeld=>?_)
   ·exact HS.out _ (bR wr.heap.size wr).drew
   refine tkD 0 (some 25) ?_
   refine tkD 1 (some 26) ?_
   refine tkD 2 (some 27) ?_
   refine tkD 3 (some 28) ?_
   refine tkD 4 (some 29) ?_ (hy:=yieldsIf_load_mid (by rfl) 34 (.tmp 28) rfl bC (off+i*21) rfl _ _ (fun w h=>h.2.2) Tryz.underlying34 rfl (by kernel_rfl))
   refine wpAnyH_ready (rs:=[5,9]) (by kernel_rfl) (by simp) ?_
   refine AllReadyH.cons rfl (fun Kq hKq=>?_) (AllReadyH.cons rfl (fun Kq hKq=>?_) AllReadyH.nil)
   ·go_simp
    go_at_call 32
    with_reducible refine (SA.out _ ?_).mono ?_
    focus (exact (bR wr.heap.size wr).drew)
    rintro e w8 ⟨u,rfl,NM,LM,A2,B2,c2,e2,q1,q2,rfl,hr,hb8⟩
    have hq8:Below wr.heap.size wr w8:=(bR wr.heap.size wr).drew.trans hb8
    have hr:=hr.lower (show wr.heap.size≤wr.drew.heap.size from nl _)
    rw [HNL.out.1] at hr
    rw [HNL.out.2] at hr
    rw [HNL.out.1,HNL.out.2,HER.out]
    clear hb8
    go_wp2_with fail
    refine hKq.out _ _ (HS.out _ hq8) (fun hHeld1=>?_)
    clear hKq Kq hHeld
    (try simp only [Act.put,sA,sB,sC])
    refine tkD 6 (some 24) ?_
    refine tkD 7 (some 31) ?_
    refine tkD 8 (some 32) ?_
    refine wpAnyH_ready (rs:=[9]) (by kernel_rfl) (by simp) ?_
    refine AllReadyH.cons rfl (fun Kq hKq=>?_) AllReadyH.nil
    go_simp
    have hZ:Blk (w8.alloc (Obj.cells #[.slice none 0 0,.slice none 0 0] 52)) w8.heap.size 52 #[.slice none 0 0,.slice none 0 0]:=Blk.new _ _ _
    have hqA:Below wr.heap.size wr (w8.alloc (Obj.cells #[.slice none 0 0,.slice none 0 0] 52)):=hq8.alloc hq8.size _
    refine hKq.out _ _ (HS.out _ hqA) (fun hHeld2=>?_)
    clear hKq Kq hHeld1
    (try simp only [Act.put,sA,sB,sC])
    obtain ⟨z0,z1⟩:=blk2 hZ
    have g0:=hZ.frozen 0
    have g1:=hZ.frozen 1
    refine wpAnyH_ready (rs:=[10]) (by kernel_rfl) (by simp) ?_
    refine AllReadyH.cons rfl (fun Kq hKq=>?_) AllReadyH.nil
    go_simp
    have hqB:Below wr.heap.size wr (w8.alloc (Obj.cells #[.slice A2 n2 c2,.slice B2 m2 e2] 52)):=hq8.alloc hq8.size _
    refine hKq.out _ _ (HS.out _ hqB) (fun hHeld3=>?_)
    clear hKq Kq hHeld2
    (try simp only [Act.put,sA,sB,sC])
    refine tkD 11 (some 9) ?_
    refine wpAnyH_done (by kernel_rfl) ?_ _
    go_wp2_with fail
    go_meet
    exact ⟨w8.heap.size,NM,LM,A2,B2,c2,e2,rfl,rfl,⟨q1,q2⟩,HM.out.call hqB,Blk.new _ _ _,hr.call ((bR w8.heap.size w8).alloc (nl _) _),hq8.size⟩
   ·go_simp
    have hZ:Blk (wr.drew.alloc (Obj.cells #[.slice none 0 0,.slice none 0 0] 52)) wr.heap.size 52 #[.slice none 0 0,.slice none 0 0]:=Blk.new _ _ _
    have hqA:Below wr.heap.size wr (wr.drew.alloc (Obj.cells #[.slice none 0 0,.slice none 0 0] 52)):=(bR wr.heap.size wr).drew.alloc (nl _) _
    refine hKq.out _ _ (HS.out _ hqA) (fun hHeld2=>?_)
    clear hKq Kq hHeld
    (try simp only [Act.put,sA,sB,sC])
    refine wpAnyH_ready (rs:=[5]) (by kernel_rfl) (by simp) ?_
    refine AllReadyH.cons rfl (fun Kq hKq=>?_) AllReadyH.nil
    go_simp
    go_at_call 32
    with_reducible refine (SA.out _ ?_).mono ?_
    focus (exact hqA)
    rintro e w8 ⟨u,rfl,NM,LM,A2,B2,c2,e2,q1,q2,rfl,hr,hb8⟩
    have hq8:Below wr.heap.size wr w8:=zA1 hqA hb8
    have hsz:wr.heap.size<(wr.drew.alloc (Obj.cells #[.slice none 0 0,.slice none 0 0] 52)).heap.size:=by simp
    have hZ:=hZ.call hb8
    rw [HNL.out.1] at hr
    rw [HNL.out.2] at hr
    rw [HNL.out.1,HNL.out.2,HER.out]
    clear hb8
    obtain ⟨z0,z1⟩:=blk2 hZ
    have g0:=hZ.frozen 0
    have g1:=hZ.frozen 1
    go_wp2_with fail
    refine hKq.out _ _ (HS.out _ hq8) (fun hHeld1=>?_)
    clear hKq Kq hHeld2
    (try simp only [Act.put,sA,sB,sC])
    refine tkD 6 (some 24) ?_
    refine tkD 7 (some 31) ?_
    refine tkD 8 (some 32) ?_
    refine wpAnyH_ready (rs:=[10]) (by kernel_rfl) (by simp) ?_
    refine AllReadyH.cons rfl (fun Kq hKq=>?_) AllReadyH.nil
    go_simp
    have hqB:Below wr.heap.size wr ((w8.setCell ⟨wr.heap.size,0,none⟩ (.slice A2 n2 c2)).setCell ⟨wr.heap.size,1,none⟩ (.slice B2 m2 e2)):=(hq8.setCell (p:=⟨wr.heap.size,0,none⟩) (nl _) _).setCell (p:=⟨wr.heap.size,1,none⟩) (nl _) _
    refine hKq.out _ _ (HS.out _ hqB) (fun hHeld3=>?_)
    clear hKq Kq hHeld1
    (try simp only [Act.put,sA,sB,sC])
    refine tkD 11 (some 9) ?_
    refine wpAnyH_done (by kernel_rfl) ?_ _
    go_wp2_with fail
    go_meet
    exact ⟨wr.heap.size,NM,LM,A2,B2,c2,e2,rfl,rfl,⟨q1,q2⟩,HM.out.call hqB,(hZ.set_ 0 _).set_ 1 _,((hr.low hsz 0 _).low hsz 1 _).lower (Nat.le_of_lt hsz),nl _⟩
  case rest=>
  obtain ⟨GY,NM,LM,A2,B2,c2,e2,rfl,rfl,HQ,HM6,HY,HCR6,HGY⟩:=hcut
  have HGN:Hid (GY≠w.heap.size):=by have h1:=HSZ.out;have h2:=HGY.out;show _≠_;omega
  clear d0 d1 r0 r1 f0 f1 HC HS SA HBC
  generalize wc=w6' at HY HM6 HCR6⊢
  obtain ⟨d0,d1⟩:=blk2 HM6.out.bx
  obtain ⟨r0,r1⟩:=blk2 HM6.out.rx
  obtain ⟨y0,y1⟩:=blk2 HY.out
  by_cases he:er=0
  case neg=>
   have t0:(er !=0)=true:=by simpa using he
   have f0:=HM6.out.rx.frozen 0
   have f1:=HM6.out.rx.frozen 1
   have HRS:=LH ((HM6.out.rx.set_ 0 (.slice none 0 0)).set_ 1 (.slice none 0 0))
   obtain ⟨z0,z1⟩:=blk2 HRS.out
   have HBE:Hid (Below w.heap.size w ((w6'.setCell ⟨w.heap.size+1,0,none⟩ (.slice none 0 0)).setCell ⟨w.heap.size+1,1,none⟩ (.slice none 0 0))):=(HM6.out.bl.setCell (p:=⟨w.heap.size+1,0,none⟩) (by show w.heap.size≤w.heap.size+1;omega) _).setCell (p:=⟨w.heap.size+1,1,none⟩) (by show w.heap.size≤w.heap.size+1;omega) _
   have HNE:=LH he
   clear he
   go_wp2_with fail
   refine bodyPost_ret (v:=.tuple #[.agg #[.slice none 0 0,.slice none 0 0],.int .i64 (i:Int),.int .i64 er]) (by simp [results,Tryz.results26,go_sem,z0,z1]) rfl ?_
   exact .inr ⟨i,er,HLT.out,HM.out.ok,by rw [←HM.out.q1,←HM.out.q2];exact HER.out,HNE.out,rfl,HBE.out⟩
  subst he
  have h0:=HM6.out.bx.frozen 0
  have h1:=HM6.out.bx.frozen 1
  have HST:Hid (AlJ w ((w6'.setCell ⟨w.heap.size,0,none⟩ (.slice A2 n2 c2)).setCell ⟨w.heap.size,1,none⟩ (.slice B2 m2 e2)) (recN Dn n) (recL Kl m) Kd D K i' (ndsM NM) (lksM LM) A2 B2 n2 m2 c2 e2):=by
   have ea:apN (recN X n') (recL Y m') (chrR (Kd i) D i K i)=opN (recN X n') (chrR (Kd i) D i K i):=if_pos HER.out
   have eb:apL (recN X n') (recL Y m') (chrR (Kd i) D i K i)=opL (recL Y m') (chrR (Kd i) D i K i):=if_pos HER.out
   have q:=HQ.out
   have l:=HNL.out
   have hsz:w.heap.size<wr.heap.size:=by have:=HSZ.out;omega
   rw [ea,eb] at q l
   exact HM.out.step HI'.out.2 HER.out q.1 q.2 l.1 l.2 ((HCR6.out.low hsz 0 _).low hsz 1 _) HSZ.out ((HM6.out.bx.set_ 0 _).set_ 1 _) ((HM6.out.rx.far (p:=⟨w.heap.size,0,none⟩) (by show w.heap.size+1≠w.heap.size;omega) _).far (p:=⟨w.heap.size,1,none⟩) (by show w.heap.size+1≠w.heap.size;omega) _) ((HM6.out.bl.setCell (p:=⟨w.heap.size,0,none⟩) (nl _) _).setCell (p:=⟨w.heap.size,1,none⟩) (nl _) _)
  go_wp2_with fail
  go_roundw
  case rel=>exact ⟨i',ndsM NM,lksM LM,A2,B2,n2,m2,c2,e2,HI'.out.1,rfl,HST⟩
  case measure=>exact HMS.out
end Go.Proofs.YtchakniaoeodmaaGreatDoor

/- The reference's Undo, where Apply accepts. Written by gen_srw.py. -/
import Derived.Test.YtchakniaoeodmaaGreatDoorZMgSr
import Derived.Test.YtchakniaoeodmaaGreatDoorZMgPa
import Derived.Deep.MidRow
namespace Go.Proofs.YtchakniaoeodmaaGreatDoor
open Go.RowKit
set_option linter.unusedVariables false
set_option linter.unusedSimpArgs false
set_option maxRecDepth 100000 in
set_option maxHeartbeats 16000000 in
theorem r_undo2 (NA LA:Option Addr) (n nc0 m lc0 i j:Nat) (D C:Nds) (K E:Lks) (w:World) (hz:ZZ (recN D n) (recL K m)) (hx:ZN (zA7 C i)) (hl:ZL (zA6 E j)) (hD:NdIn w NA n D) (hK:LkIn w LA m K) (hTx:TabIn w (C.SA i) (C.SN i) (C.SX i) (C.SY i)) (hTl:TabIn w (E.CA j) (E.CN j) (E.CX j) (E.CY j)) (he:ApE (recN D n) (recL K m) (chrR 2 C i E j)=0):
 Calls Tryz.prog 34 #[.agg #[.slice NA n nc0,.slice LA m lc0],.agg (chA 2 C i E j)] w (UndPost (recN D n) (recL K m) (chrR 2 C i E j) w):=by
 obtain ⟨W3,hW3,HB4,HNX,HCX,HRX,HSZ3⟩:=bx3 w #[.slice NA n nc0,.slice LA m lc0] (chA 2 C i E j) cZc 52 34 34
 have SA:Hid (∀w',Below w.heap.size w w'→Calls Tryz.prog 32 #[.agg #[.slice NA n nc0,.slice LA m lc0],.agg (chA 2 C i E j)] w' (AplPost (recN D n) (recL K m) (chrR 2 C i E j) w')):=fun w' hb=>zM3 NA LA n nc0 m lc0 i j 2 D C K E w' hz hx hl (zB1 hD hb) (zA9 hK hb) (hTx.below (nl _) hb) (hTl.below (nl _) hb)
 have HER:=LH he
 have SNm:Hid (∀w',Calls Tryz.prog 55 #[.agg (chA 2 C i E j)] w' fun e w''=>e= .returned (.string (C.Nm i))∧Below w'.heap.size w' w''):=fun w'=>by
  have h:=zL3 2 i j C E w'
  simpa using h
 have HZM:Hid (n≤2000):=hz.n2
 have HZ2:Hid (m≤2000):=hz.m2
 have hok:=zL5 he
 have HLEN:Hid (n≤300∧m≤400):=⟨by have:=hok.1.n300;rwa [zA3] at this,by have:=hok.1.l400;rwa [zA4] at this⟩
 obtain ⟨at',hat,hfe⟩:=zS7 (hok.2.a2 (.inl rfl))
 have hfe:fnd D.Nm n (C.Nm i)=(at':Int):=hfe
 have HFE:=LH hfe
 have HAT:=LH hat
 have SCp:Hid (∀w',Below w.heap.size w w'→Calls Tryz.prog 35 #[.agg #[.slice NA n nc0,.slice LA m lc0]] w' fun e w''=>∃u,e= .returned u∧CpPost (recN D n) (recL K m) w' u w''):=fun w' hb=>zL7 NA LA n nc0 m lc0 D K w' hz.n2 hz.m2 hz.sn hz.cn (zB1 hD hb) (zA9 hK hb)
 have k0:(0:Int)≤(at':Int):=by omega
 have kk1:(at':Int)<(n:Int):=by omega
 have kk1':at'<n:=hat
 clear hz hx hl hD hK hTx hTl he hok hfe hat
 go_enter Tryz.func34,Tryz.ntmps34
 go_upto_region 1 with fail
 rw [hW3.out]
 clear hW3
 have HSZ4:Hid (w.heap.size+3≤W3.heap.size):=by show _≤_;rw [HSZ3.out];exact nl _
 clear HSZ3
 obtain ⟨d0,d1⟩:=blk2 HNX.out
 go_upto_region 2 with (first
 |(refine wpList_load_row rfl 34 (.tmp 3) rfl _ rfl _ _ (0,0) _ HCX.out Tryz.underlying34 rfl (by kernel_rfl) ?_)
 |(go_at_call 32
   with_reducible refine (SA.out _ HB4.out).mono ?_
   rintro e w4 ⟨u,rfl,NM1,LM1,A1,B1,k1,k2,q1,q2,rfl,hr1,hb1⟩
   have HNX:=LH (HNX.out.call hb1)
   have HCX:=LH (HCX.out.call hb1)
   have HRX:=LH (HRX.out.call hb1)
   have HB4:=LH (zA1 HB4.out hb1)
   have HSZ4:Hid (w.heap.size+3≤w4.heap.size):=nT HSZ4.out hb1.size
   clear hr1 q1 q2 hb1 d0 d1
   obtain ⟨d0,d1⟩:=blk2 HNX.out))
 rw [HER.out]
 have hal5:=Below.alloc (bR w4.heap.size w4) (nl _) (Obj.cells #[.slice A1 (ApN (recN D n) (recL K m) (chrR 2 C i E j)).length k1,.slice B1 (ApL (recN D n) (recL K m) (chrR 2 C i E j)).length k2] 52)
 have HNX5:=LH (HNX.out.call hal5)
 have HCX5:=LH (HCX.out.call hal5)
 have HRX5:=LH (HRX.out.call hal5)
 have HB5:=LH (zA1 HB4.out hal5)
 clear HNX HCX HRX HB4 d0 d1 SA hal5 HSZ4
 have HNX:=HNX5
 have HCX:=HCX5
 have HRX:=HRX5
 have HB4:=HB5
 clear HNX5 HCX5 HRX5 HB5
 generalize w4.alloc (Obj.cells #[.slice A1 (ApN (recN D n) (recL K m) (chrR 2 C i E j)).length k1,.slice B1 (ApL (recN D n) (recL K m) (chrR 2 C i E j)).length k2] 52)=w5 at HNX HCX HRX HB4⊢
 obtain ⟨d0,d1⟩:=blk2 HNX.out
 have e0:=cA0 HCX.out
 have e1:=cA1 HCX.out
 have e10:=cA10 HCX.out
 go_upto_region 5 with (first
 |(refine wpList_load_row rfl 34 (.tmp 3) rfl _ rfl _ _ (0,0) _ HCX.out Tryz.underlying34 rfl (by kernel_rfl) ?_)
 |(go_at_call 55
   with_reducible refine (SNm.out _).mono ?_
   rintro e w5 ⟨rfl,hb4⟩
   clear d0 d1 e0 e1 e10
   obtain ⟨HNX,HCX,HRX,HB4,d0,d1,e0,e1,e10⟩:=bxB HNX HCX HRX HB4 hb4
   clear hb4))
 go_upto_region 6 with (first
 |(go_at_call 35
   with_reducible refine (SCp.out _ HB4.out).mono ?_
   rintro e w6 ⟨u,rfl,NM,LM,A2,B2,k3,k4,q1,q2,rfl,hr,hb⟩
   rw [zA3] at hr
   rw [zA4] at hr
   rw [zA3,zA4]
   have HRB:=LH HRX.out.lt
   have HCR:=LH (hr.lower (Nat.succ_le_of_lt HRX.out.lt))
   have HQ1:=LH q1
   have HQ2:=LH q2
   clear d0 d1 e0 e1 e10
   obtain ⟨HNX,HCX,HRX,HB4,d0,d1,e0,e1,e10⟩:=bxB HNX HCX HRX HB4 hb
   have h0:=HNX.out.frozen 0
   have h1:=HNX.out.frozen 1
   clear hr q1 q2 hb))
 have HN7:Hid (Blk ((w6.setCell ⟨w.heap.size,0,none⟩ (.slice A2 n k3)).setCell ⟨w.heap.size,1,none⟩ (.slice B2 m k4)) w.heap.size 52 #[.slice A2 n k3,.slice B2 m k4]):=(HNX.out.set_ 0 _).set_ 1 _
 have HCR7:=LH ((HCR.out.low (show w.heap.size<w.heap.size+2+1 by omega) 0 (.slice A2 n k3)).low (show w.heap.size<w.heap.size+2+1 by omega) 1 (.slice B2 m k4))
 have HCX7:=LH ((HCX.out.far (p:=⟨w.heap.size,0,none⟩) (by show w.heap.size+1≠w.heap.size;omega) (.slice A2 n k3)).far (p:=⟨w.heap.size,1,none⟩) (by show w.heap.size+1≠w.heap.size;omega) (.slice B2 m k4))
 have HRX7:=LH ((HRX.out.far (p:=⟨w.heap.size,0,none⟩) (by show w.heap.size+2≠w.heap.size;omega) (.slice A2 n k3)).far (p:=⟨w.heap.size,1,none⟩) (by show w.heap.size+2≠w.heap.size;omega) (.slice B2 m k4))
 have HB7:=LH ((HB4.out.setCell (p:=⟨w.heap.size,0,none⟩) (nl _) (.slice A2 n k3)).setCell (p:=⟨w.heap.size,1,none⟩) (nl _) (.slice B2 m k4))
 clear HNX HCX HRX HB4 d0 d1 e0 e1 e10 h0 h1 SCp SNm
 have HCX:=HCX7
 have HRX:=HRX7
 have HB4:=HB7
 clear HCX7 HRX7 HB7
 generalize (w6.setCell ⟨w.heap.size,0,none⟩ (.slice A2 n k3)).setCell ⟨w.heap.size,1,none⟩ (.slice B2 m k4)=w7 at HCX HRX HB4 HN7 HCR7⊢
 have e0:=cA0 HCX.out
 have HLN:Hid (NM.length=n∧LM.length=m):=⟨zH0 HQ1.out,zH1 HQ2.out⟩
 have HNI:Hid (NdIn w7 A2 n (ndsM NM)):=by have h:=(zD9 HCR7.out.on HCR7.out.tn (by have:=HLN.out;have:=HLEN.out;omega)).2;rw [HLN.out.1] at h;exact h
 have HLI:Hid (LkIn w7 B2 m (lksM LM)):=by have h:=(zD3 HCR7.out.ol HCR7.out.tl (by have:=HLN.out;have:=HLEN.out;omega)).2;rw [HLN.out.2] at h;exact h
 go_upto_region 8 with fail
 have SF2:Hid (∀w',Below w7.heap.size w7 w'→Calls Tryz.prog 71 #[.agg #[.slice A2 n k3,.slice B2 m k4],.string (C.Nm i)] w' fun e w''=>e= .returned (.int .i64 (at':Int))∧Below w'.heap.size w' w''):=fun w' hb=>by
  have h:=zO9 A2 B2 n k3 m k4 (ndsM NM) (C.Nm i) w' HZM.out (HNI.out.below (nl _) hb)
  rw [zR3 (X':=D.Nm) (fun q hq=>by show ((ndx NM).getD q zNd).nm=_;rw [HQ1.out,zO4 hq];rfl),HFE.out] at h
  exact h
 obtain ⟨b,off,hA2,hbb,hC,htab⟩:=HNI.out.at HAT.out
 subst hA2
 have hbn:=(HCR7.out.on.lt b rfl).1
 have HBN:Hid (b≠w.heap.size+2):=by show _≠_;omega
 have HTN:Hid (∀w8,Below w7.heap.size w7 w8→TabIn (w8.setRow (w.heap.size+2) (cNz 2 (ndsM NM) at')) ((ndsM NM).SA at') ((ndsM NM).SN at') ((ndsM NM).SX at') ((ndsM NM).SY at')):=fun w8 hb=>by
  refine (htab.below (nl _) hb).grown (zG2 (HRX.out.call hb)) fun hn b2 off2 e3 e4=>?_
  have h1:=Option.some.inj e4
  subst h1
  obtain ⟨p,hp,hpA,hpn⟩:=nd_mem HLN.out.1 HAT.out hn
  have h2:=(HCR7.out.tn p hp).2 hpn (w.heap.size+2) off2 (hpA.trans e3)
  have:=h2.1
  omega
 have HS:Hid (∀w',Below w7.heap.size w7 w'→w'.cell? ⟨w.heap.size,0,none⟩=some (.slice (some ⟨b,off,none⟩) n k3)∧w'.cell? ⟨w.heap.size,1,none⟩=some (.slice B2 m k4)∧w'.rangeAt b (off+at'*9) [.string ((ndsM NM).Nm at'),.int .i64 ((ndsM NM).Kd at'),.int .i64 ((ndsM NM).Ax at'),.int .i64 ((ndsM NM).Ay at'),.int .i64 ((ndsM NM).Iv at'),.int .i64 ((ndsM NM).Gd at'),.slice ((ndsM NM).SA at') ((ndsM NM).SN at') ((ndsM NM).SC at'),.bool ((ndsM NM).Pt at'),.int .i64 ((ndsM NM).Rs at')]):=fun w' hb=>⟨(HN7.out.call hb).cell 0,(HN7.out.call hb).cell 1,hC.below hb hbb⟩
 have HB7:=HB4
 have HRX7:=HRX
 clear hC htab HCX HN7 HCR7 HCR hbn
 have HRG:Hid (w.heap.size+2<w7.heap.size∧b≠w.heap.size+2):=⟨HRX7.out.lt,HBN.out⟩
 have HST:Hid (∀w8,Below w7.heap.size w7 w8→(fun w'=>w'.cell? ⟨w.heap.size,0,none⟩=some (.slice (some ⟨b,off,none⟩) n k3)∧w'.cell? ⟨w.heap.size,1,none⟩=some (.slice B2 m k4)∧w'.rangeAt b (off+at'*9) [.string ((ndsM NM).Nm at'),.int .i64 ((ndsM NM).Kd at'),.int .i64 ((ndsM NM).Ax at'),.int .i64 ((ndsM NM).Ay at'),.int .i64 ((ndsM NM).Iv at'),.int .i64 ((ndsM NM).Gd at'),.slice ((ndsM NM).SA at') ((ndsM NM).SN at') ((ndsM NM).SC at'),.bool ((ndsM NM).Pt at'),.int .i64 ((ndsM NM).Rs at')]) (w8.setRow (w.heap.size+2) (cNz 2 (ndsM NM) at'))):=fun w8 hb=>by
  have h:=HS.out w8 hb
  refine ⟨?_,?_,fun q v hv=>?_⟩
  ·rw [zD1 (by omega)];exact h.1
  ·rw [zD1 (by omega)];exact h.2.1
  ·rw [zD1 HRG.out.2];exact h.2.2 q v hv
 refine wp_region_held_drew (S:=(fun w'=>w'.cell? ⟨w.heap.size,0,none⟩=some (.slice (some ⟨b,off,none⟩) n k3)∧w'.cell? ⟨w.heap.size,1,none⟩=some (.slice B2 m k4)∧w'.rangeAt b (off+at'*9) [.string ((ndsM NM).Nm at'),.int .i64 ((ndsM NM).Kd at'),.int .i64 ((ndsM NM).Ax at'),.int .i64 ((ndsM NM).Ay at'),.int .i64 ((ndsM NM).Iv at'),.int .i64 ((ndsM NM).Gd at'),.slice ((ndsM NM).SA at') ((ndsM NM).SN at') ((ndsM NM).SC at'),.bool ((ndsM NM).Pt at'),.int .i64 ((ndsM NM).Rs at')])) (by kernel_rfl) ?_ (fun hHeld=>?_)
 ·exact HS.out _ (bR w7.heap.size w7).drew
 refine tkD 0 (some 27) ?_
 refine tkD 1 (some 28) ?_
 refine tkD 2 (some 29) ?_
 refine tkD 3 (some 30) ?_
 refine wpAnyH_ready (rs:=[4]) (by kernel_rfl) (by simp) ?_
 refine AllReadyH.cons rfl (fun K hK=>?_) AllReadyH.nil
 go_simp
 go_at_call 71
 with_reducible refine (SF2.out _ ?_).mono ?_
 focus (exact (bR w7.heap.size w7).drew)
 rintro e w8 ⟨rfl,hb8⟩
 have hq8:Below w7.heap.size w7 w8:=(bR w7.heap.size w7).drew.trans hb8
 clear hb8
 go_wp2_with fail
 refine hK.out _ _ (HS.out _ hq8) (fun hHeld1=>?_)
 clear hK K hHeld
 (try simp only [Act.put,sA,sB,sC])
 refine tkD 5 (some 32) ?_
 refine tkD 6 (some 33) ?_ (hy:=yieldsIf_load_mid (by rfl) 30 (.tmp 32) rfl b (off+at'*9) rfl _ _ (fun w h=>h.2.2) Tryz.underlying30 rfl (by kernel_rfl))
 refine tkD 7 (some 34) ?_
 have HRX8:=LH (HRX7.out.call hq8)
 refine wpAnyH_ready (rs:=[8]) (by kernel_rfl) (by simp) ?_
 refine AllReadyH.cons rfl (fun K hK=>?_) AllReadyH.nil
 refine zF5 rfl rfl 34 (.tmp 4) (.tmp 34) rfl (w.heap.size+2) (cNz 2 (ndsM NM) at') _ _ rfl rfl HRX8.out (by kernel_rfl) rfl (by kernel_rfl) ?_
 refine hK.out _ _ ?_ (fun hHeld2=>?_)
 ·exact HST.out _ hq8
 clear hK K hHeld1
 refine tkD 9 (some 5) ?_
 refine wpAnyH_done (by kernel_rfl) ?_ _
 have HRX9:=HRX8
 have HB8:=LH (zA1 HB7.out hq8)
 have HTF:=LH (HTN.out w8 hq8)
 clear hHeld2 hq8
 go_wp2_with fail
 refine bodyPost_ret (v:=.tuple #[.agg (cNz 2 (ndsM NM) at'),.int .i64 0]) (zB3 Tryz.results34 _ _ (w.heap.size+2) 34 (cNz 2 (ndsM NM) at') _ (by rfl) HRX9.out.setRow Tryz.underlying34 rfl (by kernel_rfl) _ (by rfl)) rfl ?_
 have HF:Hid (Below w.heap.size w (w8.setRow (w.heap.size+2) (cNz 2 (ndsM NM) at'))):=zA5 HB8.out HRX9.out (by omega)
 refine ⟨2,ndsM NM,zKl,at',0,by rw [HER.out];rfl,by rw [if_pos HER.out,und_2 rfl,show (chrR 2 C i E j).x.nm=C.Nm i from rfl,zJ0,HFE.out,Int.toNat_natCast,←ndM_at HQ1.out];rfl,HTF.out,zC9 _ _ _,HF.out⟩
set_option maxRecDepth 100000 in
set_option maxHeartbeats 16000000 in
theorem r_undo3 (NA LA:Option Addr) (n nc0 m lc0 i j:Nat) (D C:Nds) (K E:Lks) (w:World) (hz:ZZ (recN D n) (recL K m)) (hx:ZN (zA7 C i)) (hl:ZL (zA6 E j)) (hD:NdIn w NA n D) (hK:LkIn w LA m K) (hTx:TabIn w (C.SA i) (C.SN i) (C.SX i) (C.SY i)) (hTl:TabIn w (E.CA j) (E.CN j) (E.CX j) (E.CY j)) (he:ApE (recN D n) (recL K m) (chrR 3 C i E j)=0):
 Calls Tryz.prog 34 #[.agg #[.slice NA n nc0,.slice LA m lc0],.agg (chA 3 C i E j)] w (UndPost (recN D n) (recL K m) (chrR 3 C i E j) w):=by
 obtain ⟨W3,hW3,HB4,HNX,HCX,HRX,HSZ3⟩:=bx3 w #[.slice NA n nc0,.slice LA m lc0] (chA 3 C i E j) cZc 52 34 34
 have SA:Hid (∀w',Below w.heap.size w w'→Calls Tryz.prog 32 #[.agg #[.slice NA n nc0,.slice LA m lc0],.agg (chA 3 C i E j)] w' (AplPost (recN D n) (recL K m) (chrR 3 C i E j) w')):=fun w' hb=>zM3 NA LA n nc0 m lc0 i j 3 D C K E w' hz hx hl (zB1 hD hb) (zA9 hK hb) (hTx.below (nl _) hb) (hTl.below (nl _) hb)
 have HER:=LH he
 have SNm:Hid (∀w',Calls Tryz.prog 55 #[.agg (chA 3 C i E j)] w' fun e w''=>e= .returned (.string (C.Nm i))∧Below w'.heap.size w' w''):=fun w'=>by
  have h:=zL3 3 i j C E w'
  simpa using h
 have HZM:Hid (n≤2000):=hz.n2
 have HZ2:Hid (m≤2000):=hz.m2
 have hok:=zL5 he
 have HLEN:Hid (n≤300∧m≤400):=⟨by have:=hok.1.n300;rwa [zA3] at this,by have:=hok.1.l400;rwa [zA4] at this⟩
 obtain ⟨at',hat,hfe⟩:=zS7 (hok.2.a2 (.inr rfl))
 have hfe:fnd D.Nm n (C.Nm i)=(at':Int):=hfe
 have HFE:=LH hfe
 have HAT:=LH hat
 have SCp:Hid (∀w',Below w.heap.size w w'→Calls Tryz.prog 35 #[.agg #[.slice NA n nc0,.slice LA m lc0]] w' fun e w''=>∃u,e= .returned u∧CpPost (recN D n) (recL K m) w' u w''):=fun w' hb=>zL7 NA LA n nc0 m lc0 D K w' hz.n2 hz.m2 hz.sn hz.cn (zB1 hD hb) (zA9 hK hb)
 have k0:(0:Int)≤(at':Int):=by omega
 have kk1:(at':Int)<(n:Int):=by omega
 have kk1':at'<n:=hat
 clear hz hx hl hD hK hTx hTl he hok hfe hat
 go_enter Tryz.func34,Tryz.ntmps34
 go_upto_region 1 with fail
 rw [hW3.out]
 clear hW3
 have HSZ4:Hid (w.heap.size+3≤W3.heap.size):=by show _≤_;rw [HSZ3.out];exact nl _
 clear HSZ3
 obtain ⟨d0,d1⟩:=blk2 HNX.out
 go_upto_region 2 with (first
 |(refine wpList_load_row rfl 34 (.tmp 3) rfl _ rfl _ _ (0,0) _ HCX.out Tryz.underlying34 rfl (by kernel_rfl) ?_)
 |(go_at_call 32
   with_reducible refine (SA.out _ HB4.out).mono ?_
   rintro e w4 ⟨u,rfl,NM1,LM1,A1,B1,k1,k2,q1,q2,rfl,hr1,hb1⟩
   have HNX:=LH (HNX.out.call hb1)
   have HCX:=LH (HCX.out.call hb1)
   have HRX:=LH (HRX.out.call hb1)
   have HB4:=LH (zA1 HB4.out hb1)
   have HSZ4:Hid (w.heap.size+3≤w4.heap.size):=nT HSZ4.out hb1.size
   clear hr1 q1 q2 hb1 d0 d1
   obtain ⟨d0,d1⟩:=blk2 HNX.out))
 rw [HER.out]
 have hal5:=Below.alloc (bR w4.heap.size w4) (nl _) (Obj.cells #[.slice A1 (ApN (recN D n) (recL K m) (chrR 3 C i E j)).length k1,.slice B1 (ApL (recN D n) (recL K m) (chrR 3 C i E j)).length k2] 52)
 have HNX5:=LH (HNX.out.call hal5)
 have HCX5:=LH (HCX.out.call hal5)
 have HRX5:=LH (HRX.out.call hal5)
 have HB5:=LH (zA1 HB4.out hal5)
 clear HNX HCX HRX HB4 d0 d1 SA hal5 HSZ4
 have HNX:=HNX5
 have HCX:=HCX5
 have HRX:=HRX5
 have HB4:=HB5
 clear HNX5 HCX5 HRX5 HB5
 generalize w4.alloc (Obj.cells #[.slice A1 (ApN (recN D n) (recL K m) (chrR 3 C i E j)).length k1,.slice B1 (ApL (recN D n) (recL K m) (chrR 3 C i E j)).length k2] 52)=w5 at HNX HCX HRX HB4⊢
 obtain ⟨d0,d1⟩:=blk2 HNX.out
 have e0:=cA0 HCX.out
 have e1:=cA1 HCX.out
 have e10:=cA10 HCX.out
 go_upto_region 5 with (first
 |(refine wpList_load_row rfl 34 (.tmp 3) rfl _ rfl _ _ (0,0) _ HCX.out Tryz.underlying34 rfl (by kernel_rfl) ?_)
 |(go_at_call 55
   with_reducible refine (SNm.out _).mono ?_
   rintro e w5 ⟨rfl,hb4⟩
   clear d0 d1 e0 e1 e10
   obtain ⟨HNX,HCX,HRX,HB4,d0,d1,e0,e1,e10⟩:=bxB HNX HCX HRX HB4 hb4
   clear hb4))
 go_upto_region 6 with (first
 |(go_at_call 35
   with_reducible refine (SCp.out _ HB4.out).mono ?_
   rintro e w6 ⟨u,rfl,NM,LM,A2,B2,k3,k4,q1,q2,rfl,hr,hb⟩
   rw [zA3] at hr
   rw [zA4] at hr
   rw [zA3,zA4]
   have HRB:=LH HRX.out.lt
   have HCR:=LH (hr.lower (Nat.succ_le_of_lt HRX.out.lt))
   have HQ1:=LH q1
   have HQ2:=LH q2
   clear d0 d1 e0 e1 e10
   obtain ⟨HNX,HCX,HRX,HB4,d0,d1,e0,e1,e10⟩:=bxB HNX HCX HRX HB4 hb
   have h0:=HNX.out.frozen 0
   have h1:=HNX.out.frozen 1
   clear hr q1 q2 hb))
 have HN7:Hid (Blk ((w6.setCell ⟨w.heap.size,0,none⟩ (.slice A2 n k3)).setCell ⟨w.heap.size,1,none⟩ (.slice B2 m k4)) w.heap.size 52 #[.slice A2 n k3,.slice B2 m k4]):=(HNX.out.set_ 0 _).set_ 1 _
 have HCR7:=LH ((HCR.out.low (show w.heap.size<w.heap.size+2+1 by omega) 0 (.slice A2 n k3)).low (show w.heap.size<w.heap.size+2+1 by omega) 1 (.slice B2 m k4))
 have HCX7:=LH ((HCX.out.far (p:=⟨w.heap.size,0,none⟩) (by show w.heap.size+1≠w.heap.size;omega) (.slice A2 n k3)).far (p:=⟨w.heap.size,1,none⟩) (by show w.heap.size+1≠w.heap.size;omega) (.slice B2 m k4))
 have HRX7:=LH ((HRX.out.far (p:=⟨w.heap.size,0,none⟩) (by show w.heap.size+2≠w.heap.size;omega) (.slice A2 n k3)).far (p:=⟨w.heap.size,1,none⟩) (by show w.heap.size+2≠w.heap.size;omega) (.slice B2 m k4))
 have HB7:=LH ((HB4.out.setCell (p:=⟨w.heap.size,0,none⟩) (nl _) (.slice A2 n k3)).setCell (p:=⟨w.heap.size,1,none⟩) (nl _) (.slice B2 m k4))
 clear HNX HCX HRX HB4 d0 d1 e0 e1 e10 h0 h1 SCp SNm
 have HCX:=HCX7
 have HRX:=HRX7
 have HB4:=HB7
 clear HCX7 HRX7 HB7
 generalize (w6.setCell ⟨w.heap.size,0,none⟩ (.slice A2 n k3)).setCell ⟨w.heap.size,1,none⟩ (.slice B2 m k4)=w7 at HCX HRX HB4 HN7 HCR7⊢
 have e0:=cA0 HCX.out
 have HLN:Hid (NM.length=n∧LM.length=m):=⟨zH0 HQ1.out,zH1 HQ2.out⟩
 have HNI:Hid (NdIn w7 A2 n (ndsM NM)):=by have h:=(zD9 HCR7.out.on HCR7.out.tn (by have:=HLN.out;have:=HLEN.out;omega)).2;rw [HLN.out.1] at h;exact h
 have HLI:Hid (LkIn w7 B2 m (lksM LM)):=by have h:=(zD3 HCR7.out.ol HCR7.out.tl (by have:=HLN.out;have:=HLEN.out;omega)).2;rw [HLN.out.2] at h;exact h
 go_upto_region 10 with fail
 have SF2:Hid (∀w',Below w7.heap.size w7 w'→Calls Tryz.prog 71 #[.agg #[.slice A2 n k3,.slice B2 m k4],.string (C.Nm i)] w' fun e w''=>e= .returned (.int .i64 (at':Int))∧Below w'.heap.size w' w''):=fun w' hb=>by
  have h:=zO9 A2 B2 n k3 m k4 (ndsM NM) (C.Nm i) w' HZM.out (HNI.out.below (nl _) hb)
  rw [zR3 (X':=D.Nm) (fun q hq=>by show ((ndx NM).getD q zNd).nm=_;rw [HQ1.out,zO4 hq];rfl),HFE.out] at h
  exact h
 obtain ⟨b,off,hA2,hbb,hC,htab⟩:=HNI.out.at HAT.out
 subst hA2
 have hbn:=(HCR7.out.on.lt b rfl).1
 have HBN:Hid (b≠w.heap.size+2):=by show _≠_;omega
 have HTN:Hid (∀w8,Below w7.heap.size w7 w8→TabIn (w8.setRow (w.heap.size+2) (cNz 1 (ndsM NM) at')) ((ndsM NM).SA at') ((ndsM NM).SN at') ((ndsM NM).SX at') ((ndsM NM).SY at')):=fun w8 hb=>by
  refine (htab.below (nl _) hb).grown (zG2 (HRX.out.call hb)) fun hn b2 off2 e3 e4=>?_
  have h1:=Option.some.inj e4
  subst h1
  obtain ⟨p,hp,hpA,hpn⟩:=nd_mem HLN.out.1 HAT.out hn
  have h2:=(HCR7.out.tn p hp).2 hpn (w.heap.size+2) off2 (hpA.trans e3)
  have:=h2.1
  omega
 have HS:Hid (∀w',Below w7.heap.size w7 w'→w'.cell? ⟨w.heap.size,0,none⟩=some (.slice (some ⟨b,off,none⟩) n k3)∧w'.cell? ⟨w.heap.size,1,none⟩=some (.slice B2 m k4)∧w'.rangeAt b (off+at'*9) [.string ((ndsM NM).Nm at'),.int .i64 ((ndsM NM).Kd at'),.int .i64 ((ndsM NM).Ax at'),.int .i64 ((ndsM NM).Ay at'),.int .i64 ((ndsM NM).Iv at'),.int .i64 ((ndsM NM).Gd at'),.slice ((ndsM NM).SA at') ((ndsM NM).SN at') ((ndsM NM).SC at'),.bool ((ndsM NM).Pt at'),.int .i64 ((ndsM NM).Rs at')]):=fun w' hb=>⟨(HN7.out.call hb).cell 0,(HN7.out.call hb).cell 1,hC.below hb hbb⟩
 have HB7:=HB4
 have HRX7:=HRX
 clear hC htab HCX HN7 HCR7 HCR hbn
 have HRG:Hid (w.heap.size+2<w7.heap.size∧b≠w.heap.size+2):=⟨HRX7.out.lt,HBN.out⟩
 have HST:Hid (∀w8,Below w7.heap.size w7 w8→(fun w'=>w'.cell? ⟨w.heap.size,0,none⟩=some (.slice (some ⟨b,off,none⟩) n k3)∧w'.cell? ⟨w.heap.size,1,none⟩=some (.slice B2 m k4)∧w'.rangeAt b (off+at'*9) [.string ((ndsM NM).Nm at'),.int .i64 ((ndsM NM).Kd at'),.int .i64 ((ndsM NM).Ax at'),.int .i64 ((ndsM NM).Ay at'),.int .i64 ((ndsM NM).Iv at'),.int .i64 ((ndsM NM).Gd at'),.slice ((ndsM NM).SA at') ((ndsM NM).SN at') ((ndsM NM).SC at'),.bool ((ndsM NM).Pt at'),.int .i64 ((ndsM NM).Rs at')]) (w8.setRow (w.heap.size+2) (cNz 1 (ndsM NM) at'))):=fun w8 hb=>by
  have h:=HS.out w8 hb
  refine ⟨?_,?_,fun q v hv=>?_⟩
  ·rw [zD1 (by omega)];exact h.1
  ·rw [zD1 (by omega)];exact h.2.1
  ·rw [zD1 HRG.out.2];exact h.2.2 q v hv
 refine wp_region_held_drew (S:=(fun w'=>w'.cell? ⟨w.heap.size,0,none⟩=some (.slice (some ⟨b,off,none⟩) n k3)∧w'.cell? ⟨w.heap.size,1,none⟩=some (.slice B2 m k4)∧w'.rangeAt b (off+at'*9) [.string ((ndsM NM).Nm at'),.int .i64 ((ndsM NM).Kd at'),.int .i64 ((ndsM NM).Ax at'),.int .i64 ((ndsM NM).Ay at'),.int .i64 ((ndsM NM).Iv at'),.int .i64 ((ndsM NM).Gd at'),.slice ((ndsM NM).SA at') ((ndsM NM).SN at') ((ndsM NM).SC at'),.bool ((ndsM NM).Pt at'),.int .i64 ((ndsM NM).Rs at')])) (by kernel_rfl) ?_ (fun hHeld=>?_)
 ·exact HS.out _ (bR w7.heap.size w7).drew
 refine tkD 0 (some 37) ?_
 refine tkD 1 (some 38) ?_
 refine tkD 2 (some 39) ?_
 refine tkD 3 (some 40) ?_
 refine wpAnyH_ready (rs:=[4]) (by kernel_rfl) (by simp) ?_
 refine AllReadyH.cons rfl (fun K hK=>?_) AllReadyH.nil
 go_simp
 go_at_call 71
 with_reducible refine (SF2.out _ ?_).mono ?_
 focus (exact (bR w7.heap.size w7).drew)
 rintro e w8 ⟨rfl,hb8⟩
 have hq8:Below w7.heap.size w7 w8:=(bR w7.heap.size w7).drew.trans hb8
 clear hb8
 go_wp2_with fail
 refine hK.out _ _ (HS.out _ hq8) (fun hHeld1=>?_)
 clear hK K hHeld
 (try simp only [Act.put,sA,sB,sC])
 refine tkD 5 (some 42) ?_
 refine tkD 6 (some 43) ?_ (hy:=yieldsIf_load_mid (by rfl) 30 (.tmp 42) rfl b (off+at'*9) rfl _ _ (fun w h=>h.2.2) Tryz.underlying30 rfl (by kernel_rfl))
 refine tkD 7 (some 44) ?_
 have HRX8:=LH (HRX7.out.call hq8)
 refine wpAnyH_ready (rs:=[8]) (by kernel_rfl) (by simp) ?_
 refine AllReadyH.cons rfl (fun K hK=>?_) AllReadyH.nil
 refine zF5 rfl rfl 34 (.tmp 4) (.tmp 44) rfl (w.heap.size+2) (cNz 1 (ndsM NM) at') _ _ rfl rfl HRX8.out (by kernel_rfl) rfl (by kernel_rfl) ?_
 refine hK.out _ _ ?_ (fun hHeld2=>?_)
 ·exact HST.out _ hq8
 clear hK K hHeld1
 refine tkD 9 (some 5) ?_
 refine wpAnyH_done (by kernel_rfl) ?_ _
 have HRX9:=HRX8
 have HB8:=LH (zA1 HB7.out hq8)
 have HTF:=LH (HTN.out w8 hq8)
 clear hHeld2 hq8
 go_wp2_with fail
 refine bodyPost_ret (v:=.tuple #[.agg (cNz 1 (ndsM NM) at'),.int .i64 0]) (zB3 Tryz.results34 _ _ (w.heap.size+2) 34 (cNz 1 (ndsM NM) at') _ (by rfl) HRX9.out.setRow Tryz.underlying34 rfl (by kernel_rfl) _ (by rfl)) rfl ?_
 have HF:Hid (Below w.heap.size w (w8.setRow (w.heap.size+2) (cNz 1 (ndsM NM) at'))):=zA5 HB8.out HRX9.out (by omega)
 refine ⟨1,ndsM NM,zKl,at',0,by rw [HER.out];rfl,by rw [if_pos HER.out,und_3 rfl,show (chrR 3 C i E j).x.nm=C.Nm i from rfl,zJ0,HFE.out,Int.toNat_natCast,←ndM_at HQ1.out];rfl,HTF.out,zC9 _ _ _,HF.out⟩
set_option maxRecDepth 100000 in
set_option maxHeartbeats 16000000 in
theorem r_undo5 (NA LA:Option Addr) (n nc0 m lc0 i j:Nat) (D C:Nds) (K E:Lks) (w:World) (hz:ZZ (recN D n) (recL K m)) (hx:ZN (zA7 C i)) (hl:ZL (zA6 E j)) (hD:NdIn w NA n D) (hK:LkIn w LA m K) (hTx:TabIn w (C.SA i) (C.SN i) (C.SX i) (C.SY i)) (hTl:TabIn w (E.CA j) (E.CN j) (E.CX j) (E.CY j)) (he:ApE (recN D n) (recL K m) (chrR 5 C i E j)=0):
 Calls Tryz.prog 34 #[.agg #[.slice NA n nc0,.slice LA m lc0],.agg (chA 5 C i E j)] w (UndPost (recN D n) (recL K m) (chrR 5 C i E j) w):=by
 obtain ⟨W3,hW3,HB4,HNX,HCX,HRX,HSZ3⟩:=bx3 w #[.slice NA n nc0,.slice LA m lc0] (chA 5 C i E j) cZc 52 34 34
 have SA:Hid (∀w',Below w.heap.size w w'→Calls Tryz.prog 32 #[.agg #[.slice NA n nc0,.slice LA m lc0],.agg (chA 5 C i E j)] w' (AplPost (recN D n) (recL K m) (chrR 5 C i E j) w')):=fun w' hb=>zM3 NA LA n nc0 m lc0 i j 5 D C K E w' hz hx hl (zB1 hD hb) (zA9 hK hb) (hTx.below (nl _) hb) (hTl.below (nl _) hb)
 have HER:=LH he
 have SNm:Hid (∀w',Calls Tryz.prog 55 #[.agg (chA 5 C i E j)] w' fun e w''=>e= .returned (.string (E.Nm j))∧Below w'.heap.size w' w''):=fun w'=>by
  have h:=zL3 5 i j C E w'
  simpa using h
 have HZM:Hid (n≤2000):=hz.n2
 have HZ2:Hid (m≤2000):=hz.m2
 have hok:=zL5 he
 have HLEN:Hid (n≤300∧m≤400):=⟨by have:=hok.1.n300;rwa [zA3] at this,by have:=hok.1.l400;rwa [zA4] at this⟩
 obtain ⟨at',hat,hfe⟩:=zS8 (hok.2.a5 (.inl rfl))
 have hfe:fnd K.Nm m (E.Nm j)=(at':Int):=hfe
 have HFE:=LH hfe
 have HAT:=LH hat
 have SCp:Hid (∀w',Below w.heap.size w w'→Calls Tryz.prog 35 #[.agg #[.slice NA n nc0,.slice LA m lc0]] w' fun e w''=>∃u,e= .returned u∧CpPost (recN D n) (recL K m) w' u w''):=fun w' hb=>zL7 NA LA n nc0 m lc0 D K w' hz.n2 hz.m2 hz.sn hz.cn (zB1 hD hb) (zA9 hK hb)
 have k0:(0:Int)≤(at':Int):=by omega
 have kk1:(at':Int)<(m:Int):=by omega
 have kk1':at'<m:=hat
 clear hz hx hl hD hK hTx hTl he hok hfe hat
 go_enter Tryz.func34,Tryz.ntmps34
 go_upto_region 1 with fail
 rw [hW3.out]
 clear hW3
 have HSZ4:Hid (w.heap.size+3≤W3.heap.size):=by show _≤_;rw [HSZ3.out];exact nl _
 clear HSZ3
 obtain ⟨d0,d1⟩:=blk2 HNX.out
 go_upto_region 2 with (first
 |(refine wpList_load_row rfl 34 (.tmp 3) rfl _ rfl _ _ (0,0) _ HCX.out Tryz.underlying34 rfl (by kernel_rfl) ?_)
 |(go_at_call 32
   with_reducible refine (SA.out _ HB4.out).mono ?_
   rintro e w4 ⟨u,rfl,NM1,LM1,A1,B1,k1,k2,q1,q2,rfl,hr1,hb1⟩
   have HNX:=LH (HNX.out.call hb1)
   have HCX:=LH (HCX.out.call hb1)
   have HRX:=LH (HRX.out.call hb1)
   have HB4:=LH (zA1 HB4.out hb1)
   have HSZ4:Hid (w.heap.size+3≤w4.heap.size):=nT HSZ4.out hb1.size
   clear hr1 q1 q2 hb1 d0 d1
   obtain ⟨d0,d1⟩:=blk2 HNX.out))
 rw [HER.out]
 have hal5:=Below.alloc (bR w4.heap.size w4) (nl _) (Obj.cells #[.slice A1 (ApN (recN D n) (recL K m) (chrR 5 C i E j)).length k1,.slice B1 (ApL (recN D n) (recL K m) (chrR 5 C i E j)).length k2] 52)
 have HNX5:=LH (HNX.out.call hal5)
 have HCX5:=LH (HCX.out.call hal5)
 have HRX5:=LH (HRX.out.call hal5)
 have HB5:=LH (zA1 HB4.out hal5)
 clear HNX HCX HRX HB4 d0 d1 SA hal5 HSZ4
 have HNX:=HNX5
 have HCX:=HCX5
 have HRX:=HRX5
 have HB4:=HB5
 clear HNX5 HCX5 HRX5 HB5
 generalize w4.alloc (Obj.cells #[.slice A1 (ApN (recN D n) (recL K m) (chrR 5 C i E j)).length k1,.slice B1 (ApL (recN D n) (recL K m) (chrR 5 C i E j)).length k2] 52)=w5 at HNX HCX HRX HB4⊢
 obtain ⟨d0,d1⟩:=blk2 HNX.out
 have e0:=cA0 HCX.out
 have e1:=cA1 HCX.out
 have e10:=cA10 HCX.out
 go_upto_region 5 with (first
 |(refine wpList_load_row rfl 34 (.tmp 3) rfl _ rfl _ _ (0,0) _ HCX.out Tryz.underlying34 rfl (by kernel_rfl) ?_)
 |(go_at_call 55
   with_reducible refine (SNm.out _).mono ?_
   rintro e w5 ⟨rfl,hb4⟩
   clear d0 d1 e0 e1 e10
   obtain ⟨HNX,HCX,HRX,HB4,d0,d1,e0,e1,e10⟩:=bxB HNX HCX HRX HB4 hb4
   clear hb4))
 go_upto_region 6 with (first
 |(go_at_call 35
   with_reducible refine (SCp.out _ HB4.out).mono ?_
   rintro e w6 ⟨u,rfl,NM,LM,A2,B2,k3,k4,q1,q2,rfl,hr,hb⟩
   rw [zA3] at hr
   rw [zA4] at hr
   rw [zA3,zA4]
   have HRB:=LH HRX.out.lt
   have HCR:=LH (hr.lower (Nat.succ_le_of_lt HRX.out.lt))
   have HQ1:=LH q1
   have HQ2:=LH q2
   clear d0 d1 e0 e1 e10
   obtain ⟨HNX,HCX,HRX,HB4,d0,d1,e0,e1,e10⟩:=bxB HNX HCX HRX HB4 hb
   have h0:=HNX.out.frozen 0
   have h1:=HNX.out.frozen 1
   clear hr q1 q2 hb))
 have HN7:Hid (Blk ((w6.setCell ⟨w.heap.size,0,none⟩ (.slice A2 n k3)).setCell ⟨w.heap.size,1,none⟩ (.slice B2 m k4)) w.heap.size 52 #[.slice A2 n k3,.slice B2 m k4]):=(HNX.out.set_ 0 _).set_ 1 _
 have HCR7:=LH ((HCR.out.low (show w.heap.size<w.heap.size+2+1 by omega) 0 (.slice A2 n k3)).low (show w.heap.size<w.heap.size+2+1 by omega) 1 (.slice B2 m k4))
 have HCX7:=LH ((HCX.out.far (p:=⟨w.heap.size,0,none⟩) (by show w.heap.size+1≠w.heap.size;omega) (.slice A2 n k3)).far (p:=⟨w.heap.size,1,none⟩) (by show w.heap.size+1≠w.heap.size;omega) (.slice B2 m k4))
 have HRX7:=LH ((HRX.out.far (p:=⟨w.heap.size,0,none⟩) (by show w.heap.size+2≠w.heap.size;omega) (.slice A2 n k3)).far (p:=⟨w.heap.size,1,none⟩) (by show w.heap.size+2≠w.heap.size;omega) (.slice B2 m k4))
 have HB7:=LH ((HB4.out.setCell (p:=⟨w.heap.size,0,none⟩) (nl _) (.slice A2 n k3)).setCell (p:=⟨w.heap.size,1,none⟩) (nl _) (.slice B2 m k4))
 clear HNX HCX HRX HB4 d0 d1 e0 e1 e10 h0 h1 SCp SNm
 have HCX:=HCX7
 have HRX:=HRX7
 have HB4:=HB7
 clear HCX7 HRX7 HB7
 generalize (w6.setCell ⟨w.heap.size,0,none⟩ (.slice A2 n k3)).setCell ⟨w.heap.size,1,none⟩ (.slice B2 m k4)=w7 at HCX HRX HB4 HN7 HCR7⊢
 have e0:=cA0 HCX.out
 have HLN:Hid (NM.length=n∧LM.length=m):=⟨zH0 HQ1.out,zH1 HQ2.out⟩
 have HNI:Hid (NdIn w7 A2 n (ndsM NM)):=by have h:=(zD9 HCR7.out.on HCR7.out.tn (by have:=HLN.out;have:=HLEN.out;omega)).2;rw [HLN.out.1] at h;exact h
 have HLI:Hid (LkIn w7 B2 m (lksM LM)):=by have h:=(zD3 HCR7.out.ol HCR7.out.tl (by have:=HLN.out;have:=HLEN.out;omega)).2;rw [HLN.out.2] at h;exact h
 go_upto_region 12 with fail
 have SF2:Hid (∀w',Below w7.heap.size w7 w'→Calls Tryz.prog 72 #[.agg #[.slice A2 n k3,.slice B2 m k4],.string (E.Nm j)] w' fun e w''=>e= .returned (.int .i64 (at':Int))∧Below w'.heap.size w' w''):=fun w' hb=>by
  have h:=zL4 A2 B2 n k3 m k4 (lksM LM) (E.Nm j) w' HZ2.out (HLI.out.below (nl _) hb)
  rw [zR3 (X':=K.Nm) (fun q hq=>by show ((lkx LM).getD q zLk).nm=_;rw [HQ2.out,zQ2 hq];rfl),HFE.out] at h
  exact h
 obtain ⟨b,off,hA2,hbb,hC,htab⟩:=HLI.out.at HAT.out
 subst hA2
 have hbn:=(HCR7.out.ol.lt b rfl).1
 have HBN:Hid (b≠w.heap.size+2):=by show _≠_;omega
 have HTN:Hid (∀w8,Below w7.heap.size w7 w8→TabIn (w8.setRow (w.heap.size+2) (cLz 5 (lksM LM) at')) ((lksM LM).CA at') ((lksM LM).CN at') ((lksM LM).CX at') ((lksM LM).CY at')):=fun w8 hb=>by
  refine (htab.below (nl _) hb).grown (zG2 (HRX.out.call hb)) fun hn b2 off2 e3 e4=>?_
  have h1:=Option.some.inj e4
  subst h1
  obtain ⟨p,hp,hpA,hpn⟩:=lk_mem HLN.out.2 HAT.out hn
  have h2:=(HCR7.out.tl p hp).2 hpn (w.heap.size+2) off2 (hpA.trans e3)
  have:=h2.1
  omega
 have HS:Hid (∀w',Below w7.heap.size w7 w'→w'.cell? ⟨w.heap.size,0,none⟩=some (.slice A2 n k3)∧w'.cell? ⟨w.heap.size,1,none⟩=some (.slice (some ⟨b,off,none⟩) m k4)∧w'.rangeAt b (off+at'*11) [.string ((lksM LM).Nm at'),.string ((lksM LM).Fr at'),.string ((lksM LM).To at'),.int .i64 ((lksM LM).Kd at'),.int .i64 ((lksM LM).Ln at'),.int .i64 ((lksM LM).Up at'),.int .i64 ((lksM LM).Dn at'),.string ((lksM LM).Sc at'),.int .i64 ((lksM LM).Wd at'),.int .i64 ((lksM LM).Ht at'),.slice ((lksM LM).CA at') ((lksM LM).CN at') ((lksM LM).CC at')]):=fun w' hb=>⟨(HN7.out.call hb).cell 0,(HN7.out.call hb).cell 1,hC.below hb hbb⟩
 have HB7:=HB4
 have HRX7:=HRX
 clear hC htab HCX HN7 HCR7 HCR hbn
 have HRG:Hid (w.heap.size+2<w7.heap.size∧b≠w.heap.size+2):=⟨HRX7.out.lt,HBN.out⟩
 have HST:Hid (∀w8,Below w7.heap.size w7 w8→(fun w'=>w'.cell? ⟨w.heap.size,0,none⟩=some (.slice A2 n k3)∧w'.cell? ⟨w.heap.size,1,none⟩=some (.slice (some ⟨b,off,none⟩) m k4)∧w'.rangeAt b (off+at'*11) [.string ((lksM LM).Nm at'),.string ((lksM LM).Fr at'),.string ((lksM LM).To at'),.int .i64 ((lksM LM).Kd at'),.int .i64 ((lksM LM).Ln at'),.int .i64 ((lksM LM).Up at'),.int .i64 ((lksM LM).Dn at'),.string ((lksM LM).Sc at'),.int .i64 ((lksM LM).Wd at'),.int .i64 ((lksM LM).Ht at'),.slice ((lksM LM).CA at') ((lksM LM).CN at') ((lksM LM).CC at')]) (w8.setRow (w.heap.size+2) (cLz 5 (lksM LM) at'))):=fun w8 hb=>by
  have h:=HS.out w8 hb
  refine ⟨?_,?_,fun q v hv=>?_⟩
  ·rw [zD1 (by omega)];exact h.1
  ·rw [zD1 (by omega)];exact h.2.1
  ·rw [zD1 HRG.out.2];exact h.2.2 q v hv
 refine wp_region_held_drew (S:=(fun w'=>w'.cell? ⟨w.heap.size,0,none⟩=some (.slice A2 n k3)∧w'.cell? ⟨w.heap.size,1,none⟩=some (.slice (some ⟨b,off,none⟩) m k4)∧w'.rangeAt b (off+at'*11) [.string ((lksM LM).Nm at'),.string ((lksM LM).Fr at'),.string ((lksM LM).To at'),.int .i64 ((lksM LM).Kd at'),.int .i64 ((lksM LM).Ln at'),.int .i64 ((lksM LM).Up at'),.int .i64 ((lksM LM).Dn at'),.string ((lksM LM).Sc at'),.int .i64 ((lksM LM).Wd at'),.int .i64 ((lksM LM).Ht at'),.slice ((lksM LM).CA at') ((lksM LM).CN at') ((lksM LM).CC at')])) (by kernel_rfl) ?_ (fun hHeld=>?_)
 ·exact HS.out _ (bR w7.heap.size w7).drew
 refine tkD 0 (some 47) ?_
 refine tkD 1 (some 48) ?_
 refine tkD 2 (some 49) ?_
 refine tkD 3 (some 50) ?_
 refine wpAnyH_ready (rs:=[4]) (by kernel_rfl) (by simp) ?_
 refine AllReadyH.cons rfl (fun K hK=>?_) AllReadyH.nil
 go_simp
 go_at_call 72
 with_reducible refine (SF2.out _ ?_).mono ?_
 focus (exact (bR w7.heap.size w7).drew)
 rintro e w8 ⟨rfl,hb8⟩
 have hq8:Below w7.heap.size w7 w8:=(bR w7.heap.size w7).drew.trans hb8
 clear hb8
 go_wp2_with fail
 refine hK.out _ _ (HS.out _ hq8) (fun hHeld1=>?_)
 clear hK K hHeld
 (try simp only [Act.put,sA,sB,sC])
 refine tkD 5 (some 52) ?_
 refine tkD 6 (some 53) ?_ (hy:=yieldsIf_load_mid (by rfl) 32 (.tmp 52) rfl b (off+at'*11) rfl _ _ (fun w h=>h.2.2) Tryz.underlying32 rfl (by kernel_rfl))
 refine tkD 7 (some 54) ?_
 have HRX8:=LH (HRX7.out.call hq8)
 refine wpAnyH_ready (rs:=[8]) (by kernel_rfl) (by simp) ?_
 refine AllReadyH.cons rfl (fun K hK=>?_) AllReadyH.nil
 refine zF5 rfl rfl 34 (.tmp 4) (.tmp 54) rfl (w.heap.size+2) (cLz 5 (lksM LM) at') _ _ rfl rfl HRX8.out (by kernel_rfl) rfl (by kernel_rfl) ?_
 refine hK.out _ _ ?_ (fun hHeld2=>?_)
 ·exact HST.out _ hq8
 clear hK K hHeld1
 refine tkD 9 (some 5) ?_
 refine wpAnyH_done (by kernel_rfl) ?_ _
 have HRX9:=HRX8
 have HB8:=LH (zA1 HB7.out hq8)
 have HTF:=LH (HTN.out w8 hq8)
 clear hHeld2 hq8
 go_wp2_with fail
 refine bodyPost_ret (v:=.tuple #[.agg (cLz 5 (lksM LM) at'),.int .i64 0]) (zB3 Tryz.results34 _ _ (w.heap.size+2) 34 (cLz 5 (lksM LM) at') _ (by rfl) HRX9.out.setRow Tryz.underlying34 rfl (by kernel_rfl) _ (by rfl)) rfl ?_
 have HF:Hid (Below w.heap.size w (w8.setRow (w.heap.size+2) (cLz 5 (lksM LM) at'))):=zA5 HB8.out HRX9.out (by omega)
 refine ⟨5,zDn,lksM LM,0,at',by rw [HER.out];rfl,by rw [if_pos HER.out,und_5 rfl,show (chrR 5 C i E j).l.nm=E.Nm j from rfl,zJ1,HFE.out,Int.toNat_natCast,←lkM_at HQ2.out];rfl,zC9 _ _ _,HTF.out,HF.out⟩
set_option maxRecDepth 100000 in
set_option maxHeartbeats 16000000 in
theorem r_undo6 (NA LA:Option Addr) (n nc0 m lc0 i j:Nat) (D C:Nds) (K E:Lks) (w:World) (hz:ZZ (recN D n) (recL K m)) (hx:ZN (zA7 C i)) (hl:ZL (zA6 E j)) (hD:NdIn w NA n D) (hK:LkIn w LA m K) (hTx:TabIn w (C.SA i) (C.SN i) (C.SX i) (C.SY i)) (hTl:TabIn w (E.CA j) (E.CN j) (E.CX j) (E.CY j)) (he:ApE (recN D n) (recL K m) (chrR 6 C i E j)=0):
 Calls Tryz.prog 34 #[.agg #[.slice NA n nc0,.slice LA m lc0],.agg (chA 6 C i E j)] w (UndPost (recN D n) (recL K m) (chrR 6 C i E j) w):=by
 obtain ⟨W3,hW3,HB4,HNX,HCX,HRX,HSZ3⟩:=bx3 w #[.slice NA n nc0,.slice LA m lc0] (chA 6 C i E j) cZc 52 34 34
 have SA:Hid (∀w',Below w.heap.size w w'→Calls Tryz.prog 32 #[.agg #[.slice NA n nc0,.slice LA m lc0],.agg (chA 6 C i E j)] w' (AplPost (recN D n) (recL K m) (chrR 6 C i E j) w')):=fun w' hb=>zM3 NA LA n nc0 m lc0 i j 6 D C K E w' hz hx hl (zB1 hD hb) (zA9 hK hb) (hTx.below (nl _) hb) (hTl.below (nl _) hb)
 have HER:=LH he
 have SNm:Hid (∀w',Calls Tryz.prog 55 #[.agg (chA 6 C i E j)] w' fun e w''=>e= .returned (.string (E.Nm j))∧Below w'.heap.size w' w''):=fun w'=>by
  have h:=zL3 6 i j C E w'
  simpa using h
 have HZM:Hid (n≤2000):=hz.n2
 have HZ2:Hid (m≤2000):=hz.m2
 have hok:=zL5 he
 have HLEN:Hid (n≤300∧m≤400):=⟨by have:=hok.1.n300;rwa [zA3] at this,by have:=hok.1.l400;rwa [zA4] at this⟩
 obtain ⟨at',hat,hfe⟩:=zS8 (hok.2.a5 (.inr rfl))
 have hfe:fnd K.Nm m (E.Nm j)=(at':Int):=hfe
 have HFE:=LH hfe
 have HAT:=LH hat
 have SCp:Hid (∀w',Below w.heap.size w w'→Calls Tryz.prog 35 #[.agg #[.slice NA n nc0,.slice LA m lc0]] w' fun e w''=>∃u,e= .returned u∧CpPost (recN D n) (recL K m) w' u w''):=fun w' hb=>zL7 NA LA n nc0 m lc0 D K w' hz.n2 hz.m2 hz.sn hz.cn (zB1 hD hb) (zA9 hK hb)
 have k0:(0:Int)≤(at':Int):=by omega
 have kk1:(at':Int)<(m:Int):=by omega
 have kk1':at'<m:=hat
 clear hz hx hl hD hK hTx hTl he hok hfe hat
 go_enter Tryz.func34,Tryz.ntmps34
 go_upto_region 1 with fail
 rw [hW3.out]
 clear hW3
 have HSZ4:Hid (w.heap.size+3≤W3.heap.size):=by show _≤_;rw [HSZ3.out];exact nl _
 clear HSZ3
 obtain ⟨d0,d1⟩:=blk2 HNX.out
 go_upto_region 2 with (first
 |(refine wpList_load_row rfl 34 (.tmp 3) rfl _ rfl _ _ (0,0) _ HCX.out Tryz.underlying34 rfl (by kernel_rfl) ?_)
 |(go_at_call 32
   with_reducible refine (SA.out _ HB4.out).mono ?_
   rintro e w4 ⟨u,rfl,NM1,LM1,A1,B1,k1,k2,q1,q2,rfl,hr1,hb1⟩
   have HNX:=LH (HNX.out.call hb1)
   have HCX:=LH (HCX.out.call hb1)
   have HRX:=LH (HRX.out.call hb1)
   have HB4:=LH (zA1 HB4.out hb1)
   have HSZ4:Hid (w.heap.size+3≤w4.heap.size):=nT HSZ4.out hb1.size
   clear hr1 q1 q2 hb1 d0 d1
   obtain ⟨d0,d1⟩:=blk2 HNX.out))
 rw [HER.out]
 have hal5:=Below.alloc (bR w4.heap.size w4) (nl _) (Obj.cells #[.slice A1 (ApN (recN D n) (recL K m) (chrR 6 C i E j)).length k1,.slice B1 (ApL (recN D n) (recL K m) (chrR 6 C i E j)).length k2] 52)
 have HNX5:=LH (HNX.out.call hal5)
 have HCX5:=LH (HCX.out.call hal5)
 have HRX5:=LH (HRX.out.call hal5)
 have HB5:=LH (zA1 HB4.out hal5)
 clear HNX HCX HRX HB4 d0 d1 SA hal5 HSZ4
 have HNX:=HNX5
 have HCX:=HCX5
 have HRX:=HRX5
 have HB4:=HB5
 clear HNX5 HCX5 HRX5 HB5
 generalize w4.alloc (Obj.cells #[.slice A1 (ApN (recN D n) (recL K m) (chrR 6 C i E j)).length k1,.slice B1 (ApL (recN D n) (recL K m) (chrR 6 C i E j)).length k2] 52)=w5 at HNX HCX HRX HB4⊢
 obtain ⟨d0,d1⟩:=blk2 HNX.out
 have e0:=cA0 HCX.out
 have e1:=cA1 HCX.out
 have e10:=cA10 HCX.out
 go_upto_region 5 with (first
 |(refine wpList_load_row rfl 34 (.tmp 3) rfl _ rfl _ _ (0,0) _ HCX.out Tryz.underlying34 rfl (by kernel_rfl) ?_)
 |(go_at_call 55
   with_reducible refine (SNm.out _).mono ?_
   rintro e w5 ⟨rfl,hb4⟩
   clear d0 d1 e0 e1 e10
   obtain ⟨HNX,HCX,HRX,HB4,d0,d1,e0,e1,e10⟩:=bxB HNX HCX HRX HB4 hb4
   clear hb4))
 go_upto_region 6 with (first
 |(go_at_call 35
   with_reducible refine (SCp.out _ HB4.out).mono ?_
   rintro e w6 ⟨u,rfl,NM,LM,A2,B2,k3,k4,q1,q2,rfl,hr,hb⟩
   rw [zA3] at hr
   rw [zA4] at hr
   rw [zA3,zA4]
   have HRB:=LH HRX.out.lt
   have HCR:=LH (hr.lower (Nat.succ_le_of_lt HRX.out.lt))
   have HQ1:=LH q1
   have HQ2:=LH q2
   clear d0 d1 e0 e1 e10
   obtain ⟨HNX,HCX,HRX,HB4,d0,d1,e0,e1,e10⟩:=bxB HNX HCX HRX HB4 hb
   have h0:=HNX.out.frozen 0
   have h1:=HNX.out.frozen 1
   clear hr q1 q2 hb))
 have HN7:Hid (Blk ((w6.setCell ⟨w.heap.size,0,none⟩ (.slice A2 n k3)).setCell ⟨w.heap.size,1,none⟩ (.slice B2 m k4)) w.heap.size 52 #[.slice A2 n k3,.slice B2 m k4]):=(HNX.out.set_ 0 _).set_ 1 _
 have HCR7:=LH ((HCR.out.low (show w.heap.size<w.heap.size+2+1 by omega) 0 (.slice A2 n k3)).low (show w.heap.size<w.heap.size+2+1 by omega) 1 (.slice B2 m k4))
 have HCX7:=LH ((HCX.out.far (p:=⟨w.heap.size,0,none⟩) (by show w.heap.size+1≠w.heap.size;omega) (.slice A2 n k3)).far (p:=⟨w.heap.size,1,none⟩) (by show w.heap.size+1≠w.heap.size;omega) (.slice B2 m k4))
 have HRX7:=LH ((HRX.out.far (p:=⟨w.heap.size,0,none⟩) (by show w.heap.size+2≠w.heap.size;omega) (.slice A2 n k3)).far (p:=⟨w.heap.size,1,none⟩) (by show w.heap.size+2≠w.heap.size;omega) (.slice B2 m k4))
 have HB7:=LH ((HB4.out.setCell (p:=⟨w.heap.size,0,none⟩) (nl _) (.slice A2 n k3)).setCell (p:=⟨w.heap.size,1,none⟩) (nl _) (.slice B2 m k4))
 clear HNX HCX HRX HB4 d0 d1 e0 e1 e10 h0 h1 SCp SNm
 have HCX:=HCX7
 have HRX:=HRX7
 have HB4:=HB7
 clear HCX7 HRX7 HB7
 generalize (w6.setCell ⟨w.heap.size,0,none⟩ (.slice A2 n k3)).setCell ⟨w.heap.size,1,none⟩ (.slice B2 m k4)=w7 at HCX HRX HB4 HN7 HCR7⊢
 have e0:=cA0 HCX.out
 have HLN:Hid (NM.length=n∧LM.length=m):=⟨zH0 HQ1.out,zH1 HQ2.out⟩
 have HNI:Hid (NdIn w7 A2 n (ndsM NM)):=by have h:=(zD9 HCR7.out.on HCR7.out.tn (by have:=HLN.out;have:=HLEN.out;omega)).2;rw [HLN.out.1] at h;exact h
 have HLI:Hid (LkIn w7 B2 m (lksM LM)):=by have h:=(zD3 HCR7.out.ol HCR7.out.tl (by have:=HLN.out;have:=HLEN.out;omega)).2;rw [HLN.out.2] at h;exact h
 go_upto_region 14 with fail
 have SF2:Hid (∀w',Below w7.heap.size w7 w'→Calls Tryz.prog 72 #[.agg #[.slice A2 n k3,.slice B2 m k4],.string (E.Nm j)] w' fun e w''=>e= .returned (.int .i64 (at':Int))∧Below w'.heap.size w' w''):=fun w' hb=>by
  have h:=zL4 A2 B2 n k3 m k4 (lksM LM) (E.Nm j) w' HZ2.out (HLI.out.below (nl _) hb)
  rw [zR3 (X':=K.Nm) (fun q hq=>by show ((lkx LM).getD q zLk).nm=_;rw [HQ2.out,zQ2 hq];rfl),HFE.out] at h
  exact h
 obtain ⟨b,off,hA2,hbb,hC,htab⟩:=HLI.out.at HAT.out
 subst hA2
 have hbn:=(HCR7.out.ol.lt b rfl).1
 have HBN:Hid (b≠w.heap.size+2):=by show _≠_;omega
 have HTN:Hid (∀w8,Below w7.heap.size w7 w8→TabIn (w8.setRow (w.heap.size+2) (cLz 4 (lksM LM) at')) ((lksM LM).CA at') ((lksM LM).CN at') ((lksM LM).CX at') ((lksM LM).CY at')):=fun w8 hb=>by
  refine (htab.below (nl _) hb).grown (zG2 (HRX.out.call hb)) fun hn b2 off2 e3 e4=>?_
  have h1:=Option.some.inj e4
  subst h1
  obtain ⟨p,hp,hpA,hpn⟩:=lk_mem HLN.out.2 HAT.out hn
  have h2:=(HCR7.out.tl p hp).2 hpn (w.heap.size+2) off2 (hpA.trans e3)
  have:=h2.1
  omega
 have HS:Hid (∀w',Below w7.heap.size w7 w'→w'.cell? ⟨w.heap.size,0,none⟩=some (.slice A2 n k3)∧w'.cell? ⟨w.heap.size,1,none⟩=some (.slice (some ⟨b,off,none⟩) m k4)∧w'.rangeAt b (off+at'*11) [.string ((lksM LM).Nm at'),.string ((lksM LM).Fr at'),.string ((lksM LM).To at'),.int .i64 ((lksM LM).Kd at'),.int .i64 ((lksM LM).Ln at'),.int .i64 ((lksM LM).Up at'),.int .i64 ((lksM LM).Dn at'),.string ((lksM LM).Sc at'),.int .i64 ((lksM LM).Wd at'),.int .i64 ((lksM LM).Ht at'),.slice ((lksM LM).CA at') ((lksM LM).CN at') ((lksM LM).CC at')]):=fun w' hb=>⟨(HN7.out.call hb).cell 0,(HN7.out.call hb).cell 1,hC.below hb hbb⟩
 have HB7:=HB4
 have HRX7:=HRX
 clear hC htab HCX HN7 HCR7 HCR hbn
 have HRG:Hid (w.heap.size+2<w7.heap.size∧b≠w.heap.size+2):=⟨HRX7.out.lt,HBN.out⟩
 have HST:Hid (∀w8,Below w7.heap.size w7 w8→(fun w'=>w'.cell? ⟨w.heap.size,0,none⟩=some (.slice A2 n k3)∧w'.cell? ⟨w.heap.size,1,none⟩=some (.slice (some ⟨b,off,none⟩) m k4)∧w'.rangeAt b (off+at'*11) [.string ((lksM LM).Nm at'),.string ((lksM LM).Fr at'),.string ((lksM LM).To at'),.int .i64 ((lksM LM).Kd at'),.int .i64 ((lksM LM).Ln at'),.int .i64 ((lksM LM).Up at'),.int .i64 ((lksM LM).Dn at'),.string ((lksM LM).Sc at'),.int .i64 ((lksM LM).Wd at'),.int .i64 ((lksM LM).Ht at'),.slice ((lksM LM).CA at') ((lksM LM).CN at') ((lksM LM).CC at')]) (w8.setRow (w.heap.size+2) (cLz 4 (lksM LM) at'))):=fun w8 hb=>by
  have h:=HS.out w8 hb
  refine ⟨?_,?_,fun q v hv=>?_⟩
  ·rw [zD1 (by omega)];exact h.1
  ·rw [zD1 (by omega)];exact h.2.1
  ·rw [zD1 HRG.out.2];exact h.2.2 q v hv
 refine wp_region_held_drew (S:=(fun w'=>w'.cell? ⟨w.heap.size,0,none⟩=some (.slice A2 n k3)∧w'.cell? ⟨w.heap.size,1,none⟩=some (.slice (some ⟨b,off,none⟩) m k4)∧w'.rangeAt b (off+at'*11) [.string ((lksM LM).Nm at'),.string ((lksM LM).Fr at'),.string ((lksM LM).To at'),.int .i64 ((lksM LM).Kd at'),.int .i64 ((lksM LM).Ln at'),.int .i64 ((lksM LM).Up at'),.int .i64 ((lksM LM).Dn at'),.string ((lksM LM).Sc at'),.int .i64 ((lksM LM).Wd at'),.int .i64 ((lksM LM).Ht at'),.slice ((lksM LM).CA at') ((lksM LM).CN at') ((lksM LM).CC at')])) (by kernel_rfl) ?_ (fun hHeld=>?_)
 ·exact HS.out _ (bR w7.heap.size w7).drew
 refine tkD 0 (some 57) ?_
 refine tkD 1 (some 58) ?_
 refine tkD 2 (some 59) ?_
 refine tkD 3 (some 60) ?_
 refine wpAnyH_ready (rs:=[4]) (by kernel_rfl) (by simp) ?_
 refine AllReadyH.cons rfl (fun K hK=>?_) AllReadyH.nil
 go_simp
 go_at_call 72
 with_reducible refine (SF2.out _ ?_).mono ?_
 focus (exact (bR w7.heap.size w7).drew)
 rintro e w8 ⟨rfl,hb8⟩
 have hq8:Below w7.heap.size w7 w8:=(bR w7.heap.size w7).drew.trans hb8
 clear hb8
 go_wp2_with fail
 refine hK.out _ _ (HS.out _ hq8) (fun hHeld1=>?_)
 clear hK K hHeld
 (try simp only [Act.put,sA,sB,sC])
 refine tkD 5 (some 62) ?_
 refine tkD 6 (some 63) ?_ (hy:=yieldsIf_load_mid (by rfl) 32 (.tmp 62) rfl b (off+at'*11) rfl _ _ (fun w h=>h.2.2) Tryz.underlying32 rfl (by kernel_rfl))
 refine tkD 7 (some 64) ?_
 have HRX8:=LH (HRX7.out.call hq8)
 refine wpAnyH_ready (rs:=[8]) (by kernel_rfl) (by simp) ?_
 refine AllReadyH.cons rfl (fun K hK=>?_) AllReadyH.nil
 refine zF5 rfl rfl 34 (.tmp 4) (.tmp 64) rfl (w.heap.size+2) (cLz 4 (lksM LM) at') _ _ rfl rfl HRX8.out (by kernel_rfl) rfl (by kernel_rfl) ?_
 refine hK.out _ _ ?_ (fun hHeld2=>?_)
 ·exact HST.out _ hq8
 clear hK K hHeld1
 refine tkD 9 (some 5) ?_
 refine wpAnyH_done (by kernel_rfl) ?_ _
 have HRX9:=HRX8
 have HB8:=LH (zA1 HB7.out hq8)
 have HTF:=LH (HTN.out w8 hq8)
 clear hHeld2 hq8
 go_wp2_with fail
 refine bodyPost_ret (v:=.tuple #[.agg (cLz 4 (lksM LM) at'),.int .i64 0]) (zB3 Tryz.results34 _ _ (w.heap.size+2) 34 (cLz 4 (lksM LM) at') _ (by rfl) HRX9.out.setRow Tryz.underlying34 rfl (by kernel_rfl) _ (by rfl)) rfl ?_
 have HF:Hid (Below w.heap.size w (w8.setRow (w.heap.size+2) (cLz 4 (lksM LM) at'))):=zA5 HB8.out HRX9.out (by omega)
 refine ⟨4,zDn,lksM LM,0,at',by rw [HER.out];rfl,by rw [if_pos HER.out,und_6 rfl,show (chrR 6 C i E j).l.nm=E.Nm j from rfl,zJ1,HFE.out,Int.toNat_natCast,←lkM_at HQ2.out];rfl,zC9 _ _ _,HTF.out,HF.out⟩
theorem r_Undo (NA LA:Option Addr) (n nc0 m lc0 i j:Nat) (kd:Int) (D C:Nds) (K E:Lks) (w:World) (hz:ZZ (recN D n) (recL K m)) (hx:ZN (zA7 C i)) (hl:ZL (zA6 E j)) (hD:NdIn w NA n D) (hK:LkIn w LA m K) (hTx:TabIn w (C.SA i) (C.SN i) (C.SX i) (C.SY i)) (hTl:TabIn w (E.CA j) (E.CN j) (E.CX j) (E.CY j)):Calls Tryz.prog 34 #[.agg #[.slice NA n nc0,.slice LA m lc0],.agg (chA kd C i E j)] w (UndPost (recN D n) (recL K m) (chrR kd C i E j) w):=by
 by_cases he:ApE (recN D n) (recL K m) (chrR kd C i E j)=0
 ·have h0:=(zL5 he).2.kd
  have hk:kd=1∨kd=2∨kd=3∨kd=4∨kd=5∨kd=6:=by have h1:1≤kd∧kd≤6:=h0;omega
  rcases hk with rfl |rfl |rfl |rfl |rfl |rfl
  ·exact r_undo1 NA LA n nc0 m lc0 i j D C K E w hz hx hl hD hK hTx hTl he
  ·exact r_undo2 NA LA n nc0 m lc0 i j D C K E w hz hx hl hD hK hTx hTl he
  ·exact r_undo3 NA LA n nc0 m lc0 i j D C K E w hz hx hl hD hK hTx hTl he
  ·exact r_undo4 NA LA n nc0 m lc0 i j D C K E w hz hx hl hD hK hTx hTl he
  ·exact r_undo5 NA LA n nc0 m lc0 i j D C K E w hz hx hl hD hK hTx hTl he
  ·exact r_undo6 NA LA n nc0 m lc0 i j D C K E w hz hx hl hD hK hTx hTl he
 ·exact r_undoE NA LA n nc0 m lc0 i j kd D C K E w hz hx hl hD hK hTx hTl he
end Go.Proofs.YtchakniaoeodmaaGreatDoor

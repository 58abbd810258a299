/- Merged texts of these proofs: SrO1, SrO2. -/
import Derived.Test.YtchakniaoeodmaaGreatDoorMgT
import Derived.Test.YtchakniaoeodmaaGreatDoorNetW
namespace Go.Proofs.YtchakniaoeodmaaGreatDoor
open Go.RowKit
set_option linter.unusedVariables false
set_option linter.unusedSimpArgs false
set_option maxRecDepth 100000 in
set_option maxHeartbeats 32000000 in
theorem r_apply1 (NA LA:Option Addr) (n nc0 m lc0 i j:Nat) (D C:Nds) (K E:Lks) (w:World) (hv:VS (recN D n) (recL K m)) (hx:ZN (zA7 C i)) (hl:ZL (zA5 E j)) (hD:NdIn w NA n D) (hK:LkIn w LA m K) (hTx:TabIn w (C.SA i) (C.SN i) (C.SX i) (C.SY i)) (hTl:TabIn w (E.CA j) (E.CN j) (E.CX j) (E.CY j)):
 Calls Tryz.prog 32 #[.agg #[.slice NA n nc0,.slice LA m lc0],.agg (chA 1 C i E j)] w (ApPost (recN D n) (recL K m) (chrR 1 C i E j) w):=by
 have hzz:=hv.zz
 obtain ⟨c0,hc0⟩:∃c,c=chrR 1 C i E j:=⟨_,rfl⟩
 have HZOP:Hid (ZZ (opN (recN D n) c0) (opL (recL K m) c0)):=ZZ.op hv (by rw [hc0];exact hx) (by rw [hc0];exact hl)
 have HC0:=LH hc0
 have HLEN:Hid (n≤300∧m≤400):=⟨by have:=hv.n300;rwa [zA3] at this,by have:=hv.l400;rwa [zA4] at this⟩
 have HD:=LH hD
 have HK:=LH hK
 have HTx:=LH hTx
 obtain ⟨w4,hW3,HX1,HNX,HCX,HRX,HSZ3⟩:=bx3 w #[.slice NA n nc0,.slice LA m lc0] (chA 1 C i E j) #[.slice none 0 0,.slice none 0 0] 52 34 52
 have SV:Hid (∀w',Below w.heap.size w w'→Calls Tryz.prog 28 #[.agg #[.slice NA n nc0,.slice LA m lc0]] w' fun e w''=>e= .returned (.bool true)∧Below w'.heap.size w' w''):=fun w' hb=>by
  have h:=zD2 NA LA n nc0 m lc0 D K hzz.sz w' (zB3 HD.out hb) (zB1 HK.out hb)
  rw [zA2 hv.to] at h
  exact h
 have SNm:Hid (∀w',Below w.heap.size w w'→Calls Tryz.prog 55 #[.agg (chA 1 C i E j)] w' fun e w''=>e= .returned (.string (C.Nm i))∧Below w'.heap.size w' w''):=fun w' _=>by
  have h:=zW8 1 i j C E w'
  simpa using h
 have SOf:Hid (∀w',Below w.heap.size w w'→Calls Tryz.prog 54 #[.agg (chA 1 C i E j)] w' fun e w''=>e= .returned (.bool true)∧Below w'.heap.size w' w''):=fun w' _=>by
  have h:=zG5 1 i j C E w'
  simpa using h
 have SCp:Hid (∀w',Below w.heap.size w w'→Calls Tryz.prog 35 #[.agg #[.slice NA n nc0,.slice LA m lc0]] w' fun e w''=>∃u,e= .returned u∧CpPost (recN D n) (recL K m) w' u w''):=fun w' hb=>zO3 NA LA n nc0 m lc0 D K w' hzz.n2 hzz.m2 hzz.sn hzz.cn (zB3 HD.out hb) (zB1 HK.out hb)
 obtain ⟨v2,hv2⟩:∃v2,v2=fnd K.Nm m (C.Nm i):=⟨_,rfl⟩
 have SLk:Hid (∀w',Below w.heap.size w w'→Calls Tryz.prog 72 #[.agg #[.slice NA n nc0,.slice LA m lc0],.string (C.Nm i)] w' fun e w''=>e= .returned (.int .i64 v2)∧Below w'.heap.size w' w''):=fun w' hb=>by rw [hv2];exact zL4 NA LA n nc0 m lc0 K (C.Nm i) w' hzz.m2 (zB1 HK.out hb)
 rcases zC4 D.Nm n (C.Nm i) with ⟨hfe,_⟩|⟨at',hat,hfe,_,_⟩
 ·have HFE:=LH hfe
  have SNd:Hid (∀w',Below w.heap.size w w'→Calls Tryz.prog 71 #[.agg #[.slice NA n nc0,.slice LA m lc0],.string (C.Nm i)] w' fun e w''=>e= .returned (.int .i64 (-1))∧Below w'.heap.size w' w''):=fun w' hb=>by rw [←hfe];exact zN6 NA LA n nc0 m lc0 D (C.Nm i) w' hzz.n2 (zB3 HD.out hb)
  clear hv hx hl hD hK hTx hTl hc0 hzz hfe hv2
  go_enter Tryz.func32,Tryz.ntmps32
  go_upto_region 1 with fail
  rw [hW3.out]
  clear hW3
  have HB4:=HX1
  have HSZ4:Hid (w.heap.size+3≤w4.heap.size):=by show _≤_;rw [HSZ3.out];exact nl _
  clear HX1 HSZ3
  obtain ⟨d0,d1⟩:=blk2 HNX.out
  obtain ⟨r0,r1⟩:=blk2 HRX.out
  have g0:=HRX.out.frozen 0
  have g1:=HRX.out.frozen 1
  have e0:=cA0 HCX.out
  go_upto_region 14 with (first
   |(refine wpList_load_row rfl 34 (.tmp 3) rfl _ rfl _ _ (0,0) _ HCX.out Tryz.underlying34 rfl (by kernel_rfl) ?_)
   |(go_at_call 28
     with_reducible refine (SV.out _ HB4.out).mono ?_
     rintro e w4 ⟨rfl,hb4⟩
     clear d0 d1 r0 r1 g0 g1 e0
     obtain ⟨HNX,HCX,HRX,HB4,HSZ4,d0,d1,r0,r1,g0,g1,e0⟩:=bxA HNX HCX HRX HB4 HSZ4 hb4
     clear hb4)
   |(go_at_call 55
     with_reducible refine (SNm.out _ HB4.out).mono ?_
     rintro e w4 ⟨rfl,hb4⟩
     clear d0 d1 r0 r1 g0 g1 e0
     obtain ⟨HNX,HCX,HRX,HB4,HSZ4,d0,d1,r0,r1,g0,g1,e0⟩:=bxA HNX HCX HRX HB4 HSZ4 hb4
     clear hb4)
   |(go_at_call 72
     with_reducible refine (SLk.out _ HB4.out).mono ?_
     rintro e w4 ⟨rfl,hb4⟩
     clear d0 d1 r0 r1 g0 g1 e0
     obtain ⟨HNX,HCX,HRX,HB4,HSZ4,d0,d1,r0,r1,g0,g1,e0⟩:=bxA HNX HCX HRX HB4 HSZ4 hb4
     clear hb4)
   |(go_at_call 54
     with_reducible refine (SOf.out _ HB4.out).mono ?_
     rintro e w4 ⟨rfl,hb4⟩
     clear d0 d1 r0 r1 g0 g1 e0
     obtain ⟨HNX,HCX,HRX,HB4,HSZ4,d0,d1,r0,r1,g0,g1,e0⟩:=bxA HNX HCX HRX HB4 HSZ4 hb4
     clear hb4)
   |(go_at_call 71
     with_reducible refine (SNd.out _ HB4.out).mono ?_
     rintro e w4 ⟨rfl,hb4⟩
     clear d0 d1 r0 r1 g0 g1 e0
     obtain ⟨HNX,HCX,HRX,HB4,HSZ4,d0,d1,r0,r1,g0,g1,e0⟩:=bxA HNX HCX HRX HB4 HSZ4 hb4
     clear hb4))
  have HN4:=HNX
  have h0:=HNX.out.frozen 0
  have h1:=HNX.out.frozen 1
  go_upto_region 15 with (first
   |(go_at_call 35
     with_reducible refine (SCp.out _ HB4.out).mono ?_
     rintro e w5 ⟨u,rfl,NM,LM,A1,B1,k1,k2,q1,q2,rfl,hr,hb⟩
     rw [zA3] at hr
     rw [zA4] at hr
     rw [zA3,zA4]
     have hN5:=HNX.out.call hb
     obtain ⟨d0,d1⟩:=blk2 hN5
     have h0:=hN5.frozen 0
     have h1:=hN5.frozen 1
     have HCR5:=LH hr
     have HQ1:=LH q1
     have HQ2:=LH q2
     have HB5:=LH hb
     clear hr q1 q2 hb))
  have HNX6:=LH (((HNX.out.call HB5.out).set_ 0 (.slice A1 n k1)).set_ 1 (.slice B1 m k2))
  have HCX6:=LH (((HCX.out.call HB5.out).far (p:=⟨w.heap.size,0,none⟩) (by show w.heap.size+1≠w.heap.size;omega) (.slice A1 n k1)).far (p:=⟨w.heap.size,1,none⟩) (by show w.heap.size+1≠w.heap.size;omega) (.slice B1 m k2))
  have HRX6:=LH (((HRX.out.call HB5.out).far (p:=⟨w.heap.size,0,none⟩) (by show w.heap.size+2≠w.heap.size;omega) (.slice A1 n k1)).far (p:=⟨w.heap.size,1,none⟩) (by show w.heap.size+2≠w.heap.size;omega) (.slice B1 m k2))
  have HB6:=LH (((zA1 HB4.out HB5.out).setCell (p:=⟨w.heap.size,0,none⟩) (nl _) (.slice A1 n k1)).setCell (p:=⟨w.heap.size,1,none⟩) (nl _) (.slice B1 m k2))
  have HCR:Hid (CpR (w.heap.size+3) NM LM (.slice A1 n k1) (.slice B1 m k2) ((w5.setCell ⟨w.heap.size,0,none⟩ (.slice A1 n k1)).setCell ⟨w.heap.size,1,none⟩ (.slice B1 m k2))):=((HCR5.out.low (by have:=HSZ4.out;omega) 0 (.slice A1 n k1)).low (by have:=HSZ4.out;omega) 1 (.slice B1 m k2)).lower HSZ4.out
  have HSZ6:Hid (w.heap.size+3≤((w5.setCell ⟨w.heap.size,0,none⟩ (.slice A1 n k1)).setCell ⟨w.heap.size,1,none⟩ (.slice B1 m k2)).heap.size):=by show _≤_;simp;exact nT HSZ4.out HB5.out.size
  have HLN:Hid (NM.length=n∧LM.length=m):=⟨zQ2 HQ1.out,zQ3 HQ2.out⟩
  clear d0 d1 h0 h1 hN5 r0 r1 g0 g1 e0 HNX HCX HRX HB4 HB5 HCR5 HN4
  have HNX:=HNX6
  have HCX:=HCX6
  have HRX:=HRX6
  have HB4:=HB6
  clear HNX6 HCX6 HRX6 HB6
  generalize (w5.setCell ⟨w.heap.size,0,none⟩ (.slice A1 n k1)).setCell ⟨w.heap.size,1,none⟩ (.slice B1 m k2)=w6 at HNX HCX HRX HB4 HCR HSZ6⊢
  obtain ⟨d0,d1⟩:=blk2 HNX.out
  have e0:=cA0 HCX.out
  have h0:=HNX.out.frozen 0
  have h1:=HNX.out.frozen 1
  go_upto_block 0 with fail
  obtain ⟨i0,hi0,hz0,hz1,hz2⟩:=zB2 infoNd9
  have HI0:=LH hi0
  have HZ0:=LH hz0
  have HZ1:=LH hz1
  have HZ2:=LH hz2
  clear hi0 hz0 hz1 hz2
  obtain ⟨e0x,e1x,e2x,e3x,e4x,e5x,e6x,e7x,e8x⟩:=chgN HCX.out
  have HN2:Hid (n≤2000):=by show _≤_;have:=HLEN.out;omega
  have HOW:Hid (w6.ownsRow (w.heap.size+3) 30 9 (.slice A1 n k1) n (nc NM)):=by have h:=HCR.out.on;rw [HLN.out.1] at h;exact h
  go_cut [] from 50 to 139 (fun wx=>∃(A9 B9:Option Addr) (c9 d9:Nat) (D9:Nds) (K9:Lks),Hid (NdIn wx A9 (n+1) D9)∧Hid (LkIn wx B9 (m) K9)∧Hid (recN D9 (n+1)=opN (recN D n) (chrR 1 C i E j))∧Hid (recL K9 (m)=opL (recL K m) (chrR 1 C i E j))∧Hid (Blk wx w.heap.size 52 #[.slice A9 (n+1) c9,.slice B9 (m) d9])∧Hid (Blk wx (w.heap.size+2) 52 #[.slice none 0 0,.slice none 0 0])∧Hid (Below w.heap.size w wx))
  case first=>
   go_upto_region 17 with fail
   go_wp2_with (first
        |(at_builtin;refine wpList_append_own_at _ ?q1_1 (.tmp 53) (.tmp 56) 49 ?q1_2 (w.heap.size+3) 30 i0 (.agg #[.string ⟨#[]⟩,.int .i64 0,.int .i64 0,.int .i64 0,.int .i64 0,.int .i64 0,.slice none 0 0,.bool false,.int .i64 0]) 9 96 Tryz.underlying49 HI0.out HZ0.out HZ1.out HZ2.out ?q1_3 ?q1_4 (.slice A1 n k1) n (nc NM) ?q1_5 (HOW.out.alloc _) ⟨w6.heap.size,0,none⟩ 1 1 [.string (C.Nm i),.int .i64 (C.Kd i),.int .i64 (C.Ax i),.int .i64 (C.Ay i),.int .i64 (C.Iv i),.int .i64 (C.Gd i),.slice (C.SA i) (C.SN i) (C.SC i),.bool (C.Pt i),.int .i64 (C.Rs i)] ?q1_7 rfl (World.news_of_block (cs:=(cNd C i)) (t:=30) (fr:=(0,0)) (heap_alloc_new _ _)) (by simp [Value.oneCell']) (zN8 HN2.out) (hby_nd HN2.out) (zC6 HSZ6.out _) ?q1_14
          case q1_1=>exact rfl
          case q1_2=>exact rfl
          case q1_3=>exact rfl
          case q1_4=>decide
          case q1_5=>exact rfl
          case q1_7=>exact rfl
          intro u2 w7 hown2 hgrow2 hnil2 hat2
          obtain ⟨g2,cap2,rfl,hb2,hl2⟩:=hown2.form (by omega)
          have HO7:=LH hown2
          have HG7:=LH hgrow2
          have HCRB:=LH (HCR.out.call (Below.alloc (bR _ w6) (nl _) (Obj.cells (cNd C i) 30)))
          have hrw:∀g,(Value.slice A1 n k1).ownBlock=some g→w.heap.size+3≤g:=fun g e=>(HOW.out.lt g e).1
          have HB7:=LH (zA9 (HB4.out.alloc HB4.out.size _) (zC6 HB4.out.size _) hgrow2 (fun g e=>by have:=hrw g e;omega))
          have HN7:=LH ((HNX.out.alloc _).grown hgrow2 (fun e=>by have:=hrw _ e.symm;omega))
          have HR7:=LH ((HRX.out.alloc _).grown hgrow2 (fun e=>by have:=hrw _ e.symm;omega))
          clear d0 d1 h0 h1
          obtain ⟨d0,d1⟩:=blk2 HN7.out
          have h0:=HN7.out.frozen 0
          have h1:=HN7.out.frozen 1
          clear hown2 hgrow2 hnil2 hat2 hb2 hl2 hrw))
   have HAFT:=LH (HCRB.out.aft (g0:=w.heap.size) (i:=0) (x:=(.slice (some ⟨g2,0,none⟩) (n+1) cap2)) HG7.out (.inl rfl) (by omega))
   have HO9:=LH (zA6 (i:=0) (x:=(.slice (some ⟨g2,0,none⟩) (n+1) cap2)) HO7.out (show w.heap.size<w.heap.size+3 by omega))
   have HB9:=LH (HB7.out.setCell (p:=⟨w.heap.size,0,none⟩) (nl _) ((.slice (some ⟨g2,0,none⟩) (n+1) cap2)))
   have HN9:=LH (HN7.out.set_ 0 ((.slice (some ⟨g2,0,none⟩) (n+1) cap2)))
   have HR9:=LH (HR7.out.far (p:=⟨w.heap.size,0,none⟩) (by show w.heap.size+2≠w.heap.size;omega) ((.slice (some ⟨g2,0,none⟩) (n+1) cap2)))
   try go_meet
   exact ⟨some ⟨g2,0,none⟩,B1,cap2,k2,ndsM (NM++[(ndC C i (C.SA i) (C.SC i))]),lksM LM,(zX1 (by rw [List.length_append,HLN.out.1];rfl) (by rw [zL9,nc_one,show ncm (ndC C i (C.SA i) (C.SC i))=[.string (C.Nm i),.int .i64 (C.Kd i),.int .i64 (C.Ax i),.int .i64 (C.Ay i),.int .i64 (C.Iv i),.int .i64 (C.Gd i),.slice (C.SA i) (C.SN i) (C.SC i),.bool (C.Pt i),.int .i64 (C.Rs i)] from zH0 C i (C.SA i) (C.SC i)];exact HO9.out) (fun p hp=>by rcases List.mem_append.1 hp with hp |hp;exact HAFT.out.1 p hp;rw [List.mem_singleton.1 hp];exact zC2 (HTx.out.below (nl _) HB9.out)) (by have:=HLEN.out;omega)),(zX3 HLN.out.2 (by have h:=own_oth (g0:=w.heap.size) (i:=0) (x:=(.slice (some ⟨g2,0,none⟩) (n+1) cap2)) HCRB.out.ol HCRB.out.on (by decide) HG7.out (by omega);rw [HLN.out.2] at h;exact h) HAFT.out.2 (by have:=HLEN.out;omega)),(by show recN _ _=_;rw [zL8 (by rw [List.length_append,HLN.out.1];rfl),zX0,HQ1.out,opN_1 (by simp [chrR])];rfl),(by show recL _ _=_;rw [zM0 HLN.out.2,HQ2.out,zT7 (by simp [chrR])]),HN9.out,HR9.out,HB9.out⟩
  case rest=>
  obtain ⟨A9,B9,c9,d9,D9,K9,HND,HLK,HE1,HE2,HN9,HR9,HB9⟩:=hcut
  clear HNX HCX HRX HB4 HCR HSZ6 HSZ4
  generalize hq9:n+1=q9 at HND HE1 HN9
  have HQ9:=LH hq9
  clear hq9
  have HZ9:Hid (ZZ (recN D9 (q9)) (recL K9 (m))):=by show ZZ _ _;rw [HE1.out,HE2.out,←HC0.out];exact HZOP.out
  obtain ⟨o0,o1⟩:=blk2 HN9.out
  obtain ⟨r0,r1⟩:=blk2 HR9.out
  have g0:=HR9.out.frozen 0
  have g1:=HR9.out.frozen 1
  have HSZ9:Hid (w.heap.size+2<wc.heap.size):=HR9.out.lt
  by_cases hF:300<q9
  ·have l1:decide ((300:Int)<((q9:Nat):Int))=true:=dU (by omega)
   have l2:decide (300<q9)=true:=dU (by omega)
   have l3:decide (((q9:Nat):Int) > 300)=true:=dU (by omega)
   have l4:decide ((400:Int)<((m:Nat):Int))=false:=dF (by have:=HLEN.out;have:=HQ9.out;omega)
   have l5:decide (400<m)=false:=dF (by have:=HLEN.out;have:=HQ9.out;omega)
   have l6:decide (((m:Nat):Int) > 400)=false:=dF (by have:=HLEN.out;have:=HQ9.out;omega)
   have HRS:=LH ((HR9.out.set_ 0 (.slice none 0 0)).set_ 1 (.slice none 0 0))
   obtain ⟨z0,z1⟩:=blk2 HRS.out
   have HBE:Hid (Below w.heap.size w ((wc.setCell ⟨w.heap.size+2,0,none⟩ (.slice none 0 0)).setCell ⟨w.heap.size+2,1,none⟩ (.slice none 0 0))):=(HB9.out.setCell (p:=⟨w.heap.size+2,0,none⟩) (by show w.heap.size≤w.heap.size+2;omega) _).setCell (p:=⟨w.heap.size+2,1,none⟩) (by show w.heap.size≤w.heap.size+2;omega) _
   have HWHY:Hid (apE (recN D n) (recL K m) (chrR 1 C i E j)=4):=apE_4 (.inl ⟨rfl,zE2 HFE.out,by rw [zA3];have:=HQ9.out;omega⟩)
   clear hF
   go_wp2_with fail
   refine bodyPost_ret (v:=.tuple #[.agg #[.slice none 0 0,.slice none 0 0],.int .i64 4]) (by simp [results,Tryz.results32,go_sem,z0,z1]) rfl ?_
   exact zF0 (by decide) HWHY.out rfl HBE.out
  have HF:=LH hF
  clear hF
  have HAP:Hid (ApP (recN D n) (recL K m) (chrR 1 C i E j)):=⟨⟨by simp [chrR],by simp [chrR]⟩,fun _=>zE2 HFE.out,fun q=>absurd q (by simp [chrR]),fun q=>absurd q (by simp [chrR]),fun q=>absurd q (by simp [chrR]),fun q=>absurd q (by simp [chrR]),fun _=>by rw [zA3];have:=HF.out;have:=HQ9.out;omega,fun q=>absurd q (by simp [chrR])⟩
  have HND2:Hid (q9≤300∧m≤400):=by show _∧_;have:=HLEN.out;have:=HF.out;have:=HQ9.out;omega
  have l1:decide ((300:Int)<((q9:Nat):Int))=false:=dF (by have:=HND2.out;omega)
  have l2:decide (300<q9)=false:=dF (by have:=HND2.out;omega)
  have l3:decide (((q9:Nat):Int) > 300)=false:=dF (by have:=HND2.out;omega)
  have l4:decide ((400:Int)<((m:Nat):Int))=false:=dF (by have:=HND2.out;omega)
  have l5:decide (400<m)=false:=dF (by have:=HND2.out;omega)
  have l6:decide (((m:Nat):Int) > 400)=false:=dF (by have:=HND2.out;omega)
  by_cases hV:netP D9 (q9) K9 (m)
  ·have SV2:Hid (Calls Tryz.prog 28 #[.agg #[.slice A9 (q9) c9,.slice B9 (m) d9]] wc fun e w''=>e= .returned (.bool true)∧Below wc.heap.size wc w''):=by
        have h:=zD2 A9 B9 (q9) c9 (m) d9 D9 K9 HZ9.out.sz wc HND.out HLK.out
        rw [zA2 hV] at h
        exact h
   have HV:=LH hV
   clear hV
   go_upto_region 37 with (first
        |(go_at_call 28
          with_reducible refine SV2.out.mono ?_
          rintro e w10 ⟨rfl,hb10⟩
          have HB10:=LH (zA1 HB9.out hb10)
          have HND10:=LH (HND.out.below (nl _) hb10)
          have HLK10:=LH (HLK.out.below (nl _) hb10)
          have HN10:=LH (HN9.out.call hb10)
          have HR10:=LH (HR9.out.call hb10)
          have HSZ10:Hid (w.heap.size+2<w10.heap.size):=Nat.lt_of_lt_of_le HSZ9.out hb10.size
          clear hb10))
   clear o0 o1 r0 r1 g0 g1
   obtain ⟨o0,o1⟩:=blk2 HN10.out
   have SC:Hid (Calls Tryz.prog 35 #[.agg #[.slice A9 (q9) c9,.slice B9 (m) d9]] w10 fun e w''=>∃u,e= .returned u∧CpPost (recN D9 (q9)) (recL K9 (m)) w10 u w''):=zO3 A9 B9 (q9) c9 (m) d9 D9 K9 w10 HZ9.out.n2 HZ9.out.m2 HZ9.out.sn HZ9.out.cn HND10.out HLK10.out
   go_wp2_with (first
        |(go_at_call 35
          with_reducible refine SC.out.mono ?_
          rintro e w11 ⟨u,rfl,NM1,LM1,A2,B2,k3,k4,q1,q2,rfl,hr1,hb1⟩
          rw [zA3] at hr1
          rw [zA4] at hr1
          rw [zA3,zA4]
          have HCR1:=LH hr1
          have HP1:=LH q1
          have HP2:=LH q2
          have HB11:=LH (zA1 HB10.out hb1)
          have HR11:=HR10.out.call hb1
          obtain ⟨r0,r1⟩:=blk2 HR11
          have g0:=HR11.frozen 0
          have g1:=HR11.frozen 1
          have HRS:=LH ((HR11.set_ 0 (.slice A2 (q9) k3)).set_ 1 (.slice B2 (m) k4))
          obtain ⟨z0,z1⟩:=blk2 HRS.out
          clear hr1 q1 q2 hb1 HR11))
   have HFN:=zE9 HCR1.out HB11.out (g:=w.heap.size+2) (by omega) HSZ10.out
   rw [HP1.out,HP2.out] at HFN
   have HFN:=LH HFN
   refine bodyPost_ret (v:=.tuple #[.agg #[.slice A2 (q9) k3,.slice B2 (m) k4],.int .i64 0]) (by simp [results,Tryz.results32,go_sem,z0,z1]) rfl ?_
   exact zH5 HAP.out HE1.out HE2.out HV.out rfl HFN.out
  ·have SV2:Hid (Calls Tryz.prog 28 #[.agg #[.slice A9 (q9) c9,.slice B9 (m) d9]] wc fun e w''=>e= .returned (.bool false)∧Below wc.heap.size wc w''):=by
        have h:=zD2 A9 B9 (q9) c9 (m) d9 D9 K9 HZ9.out.sz wc HND.out HLK.out
        rw [zA0 hV] at h
        exact h
   have HV:=LH hV
   clear hV
   go_upto_region 36 with (first
        |(go_at_call 28
          with_reducible refine SV2.out.mono ?_
          rintro e w10 ⟨rfl,hb10⟩
          have HB10:=LH (zA1 HB9.out hb10)
          have HR10:=HR9.out.call hb10
          clear r0 r1 g0 g1
          obtain ⟨r0,r1⟩:=blk2 HR10
          have g0:=HR10.frozen 0
          have g1:=HR10.frozen 1
          have HRS:=LH ((HR10.set_ 0 (.slice none 0 0)).set_ 1 (.slice none 0 0))
          obtain ⟨z0,z1⟩:=blk2 HRS.out
          clear hb10 HR10))
   go_wp2_with fail
   refine bodyPost_ret (v:=.tuple #[.agg #[.slice none 0 0,.slice none 0 0],.int .i64 25]) (by simp [results,Tryz.results32,go_sem,z0,z1]) rfl ?_
   exact zK8 HAP.out HE1.out HE2.out HV.out rfl ((HB10.out.setCell (p:=⟨w.heap.size+2,0,none⟩) (by show w.heap.size≤w.heap.size+2;omega) _).setCell (p:=⟨w.heap.size+2,1,none⟩) (by show w.heap.size≤w.heap.size+2;omega) _)
 ·have HFE:=LH hfe
  have t1:decide ((0:Int)≤(at':Int))=true:=dU (by omega)
  have t2:decide ((at':Int)<0)=false:=dF (by omega)
  have t3:decide ((at':Int) ≥ 0)=true:=dU (by omega)
  have SNd:Hid (∀w',Below w.heap.size w w'→Calls Tryz.prog 71 #[.agg #[.slice NA n nc0,.slice LA m lc0],.string (C.Nm i)] w' fun e w''=>e= .returned (.int .i64 ((at':Int)))∧Below w'.heap.size w' w''):=fun w' hb=>by rw [←hfe];exact zN6 NA LA n nc0 m lc0 D (C.Nm i) w' hzz.n2 (zB3 HD.out hb)
  clear hat hv hx hl hD hK hTx hTl hc0 hzz hfe hv2
  go_enter Tryz.func32,Tryz.ntmps32
  go_upto_region 1 with fail
  rw [hW3.out]
  clear hW3
  have HB4:=HX1
  have HSZ4:Hid (w.heap.size+3≤w4.heap.size):=by show _≤_;rw [HSZ3.out];exact nl _
  clear HX1 HSZ3
  obtain ⟨d0,d1⟩:=blk2 HNX.out
  obtain ⟨r0,r1⟩:=blk2 HRX.out
  have g0:=HRX.out.frozen 0
  have g1:=HRX.out.frozen 1
  have e0:=cA0 HCX.out
  go_upto_region 10 with (first
   |(refine wpList_load_row rfl 34 (.tmp 3) rfl _ rfl _ _ (0,0) _ HCX.out Tryz.underlying34 rfl (by kernel_rfl) ?_)
   |(go_at_call 28
     with_reducible refine (SV.out _ HB4.out).mono ?_
     rintro e w4 ⟨rfl,hb4⟩
     clear d0 d1 r0 r1 g0 g1 e0
     obtain ⟨HNX,HCX,HRX,HB4,HSZ4,d0,d1,r0,r1,g0,g1,e0⟩:=bxA HNX HCX HRX HB4 HSZ4 hb4
     clear hb4)
   |(go_at_call 55
     with_reducible refine (SNm.out _ HB4.out).mono ?_
     rintro e w4 ⟨rfl,hb4⟩
     clear d0 d1 r0 r1 g0 g1 e0
     obtain ⟨HNX,HCX,HRX,HB4,HSZ4,d0,d1,r0,r1,g0,g1,e0⟩:=bxA HNX HCX HRX HB4 HSZ4 hb4
     clear hb4)
   |(go_at_call 72
     with_reducible refine (SLk.out _ HB4.out).mono ?_
     rintro e w4 ⟨rfl,hb4⟩
     clear d0 d1 r0 r1 g0 g1 e0
     obtain ⟨HNX,HCX,HRX,HB4,HSZ4,d0,d1,r0,r1,g0,g1,e0⟩:=bxA HNX HCX HRX HB4 HSZ4 hb4
     clear hb4)
   |(go_at_call 54
     with_reducible refine (SOf.out _ HB4.out).mono ?_
     rintro e w4 ⟨rfl,hb4⟩
     clear d0 d1 r0 r1 g0 g1 e0
     obtain ⟨HNX,HCX,HRX,HB4,HSZ4,d0,d1,r0,r1,g0,g1,e0⟩:=bxA HNX HCX HRX HB4 HSZ4 hb4
     clear hb4)
   |(go_at_call 71
     with_reducible refine (SNd.out _ HB4.out).mono ?_
     rintro e w4 ⟨rfl,hb4⟩
     clear d0 d1 r0 r1 g0 g1 e0
     obtain ⟨HNX,HCX,HRX,HB4,HSZ4,d0,d1,r0,r1,g0,g1,e0⟩:=bxA HNX HCX HRX HB4 HSZ4 hb4
     clear hb4))
  have HRS:=LH ((HRX.out.set_ 0 (.slice none 0 0)).set_ 1 (.slice none 0 0))
  obtain ⟨z0,z1⟩:=blk2 HRS.out
  have HBE:Hid (Below w.heap.size w ((w4.setCell ⟨w.heap.size+2,0,none⟩ (.slice none 0 0)).setCell ⟨w.heap.size+2,1,none⟩ (.slice none 0 0))):=(HB4.out.setCell (p:=⟨w.heap.size+2,0,none⟩) (by show w.heap.size≤w.heap.size+2;omega) _).setCell (p:=⟨w.heap.size+2,1,none⟩) (by show w.heap.size≤w.heap.size+2;omega) _
  have HWHY:Hid (apE (recN D n) (recL K m) (chrR 1 C i E j)=15):=apE_15 (.inl ⟨rfl,zE1 HFE.out⟩)
  go_wp2_with fail
  refine bodyPost_ret (v:=.tuple #[.agg #[.slice none 0 0,.slice none 0 0],.int .i64 15]) (by simp [results,Tryz.results32,go_sem,z0,z1]) rfl ?_
  exact zF0 (by decide) HWHY.out rfl HBE.out
set_option maxRecDepth 100000 in
set_option maxHeartbeats 32000000 in
theorem r_apply2 (NA LA:Option Addr) (n nc0 m lc0 i j:Nat) (D C:Nds) (K E:Lks) (w:World) (hv:VS (recN D n) (recL K m)) (hx:ZN (zA7 C i)) (hl:ZL (zA5 E j)) (hD:NdIn w NA n D) (hK:LkIn w LA m K) (hTx:TabIn w (C.SA i) (C.SN i) (C.SX i) (C.SY i)) (hTl:TabIn w (E.CA j) (E.CN j) (E.CX j) (E.CY j)):
 Calls Tryz.prog 32 #[.agg #[.slice NA n nc0,.slice LA m lc0],.agg (chA 2 C i E j)] w (ApPost (recN D n) (recL K m) (chrR 2 C i E j) w):=by
 have hzz:=hv.zz
 obtain ⟨c0,hc0⟩:∃c,c=chrR 2 C i E j:=⟨_,rfl⟩
 have HZOP:Hid (ZZ (opN (recN D n) c0) (opL (recL K m) c0)):=ZZ.op hv (by rw [hc0];exact hx) (by rw [hc0];exact hl)
 have HC0:=LH hc0
 have HLEN:Hid (n≤300∧m≤400):=⟨by have:=hv.n300;rwa [zA3] at this,by have:=hv.l400;rwa [zA4] at this⟩
 have HD:=LH hD
 have HK:=LH hK
 have HTx:=LH hTx
 obtain ⟨w4,hW3,HX1,HNX,HCX,HRX,HSZ3⟩:=bx3 w #[.slice NA n nc0,.slice LA m lc0] (chA 2 C i E j) #[.slice none 0 0,.slice none 0 0] 52 34 52
 have SV:Hid (∀w',Below w.heap.size w w'→Calls Tryz.prog 28 #[.agg #[.slice NA n nc0,.slice LA m lc0]] w' fun e w''=>e= .returned (.bool true)∧Below w'.heap.size w' w''):=fun w' hb=>by
  have h:=zD2 NA LA n nc0 m lc0 D K hzz.sz w' (zB3 HD.out hb) (zB1 HK.out hb)
  rw [zA2 hv.to] at h
  exact h
 have SNm:Hid (∀w',Below w.heap.size w w'→Calls Tryz.prog 55 #[.agg (chA 2 C i E j)] w' fun e w''=>e= .returned (.string (C.Nm i))∧Below w'.heap.size w' w''):=fun w' _=>by
  have h:=zW8 2 i j C E w'
  simpa using h
 have SOf:Hid (∀w',Below w.heap.size w w'→Calls Tryz.prog 54 #[.agg (chA 2 C i E j)] w' fun e w''=>e= .returned (.bool true)∧Below w'.heap.size w' w''):=fun w' _=>by
  have h:=zG5 2 i j C E w'
  simpa using h
 have SCp:Hid (∀w',Below w.heap.size w w'→Calls Tryz.prog 35 #[.agg #[.slice NA n nc0,.slice LA m lc0]] w' fun e w''=>∃u,e= .returned u∧CpPost (recN D n) (recL K m) w' u w''):=fun w' hb=>zO3 NA LA n nc0 m lc0 D K w' hzz.n2 hzz.m2 hzz.sn hzz.cn (zB3 HD.out hb) (zB1 HK.out hb)
 obtain ⟨v2,hv2⟩:∃v2,v2=fnd K.Nm m (C.Nm i):=⟨_,rfl⟩
 have SLk:Hid (∀w',Below w.heap.size w w'→Calls Tryz.prog 72 #[.agg #[.slice NA n nc0,.slice LA m lc0],.string (C.Nm i)] w' fun e w''=>e= .returned (.int .i64 v2)∧Below w'.heap.size w' w''):=fun w' hb=>by rw [hv2];exact zL4 NA LA n nc0 m lc0 K (C.Nm i) w' hzz.m2 (zB1 HK.out hb)
 rcases zC4 D.Nm n (C.Nm i) with ⟨hfe,_⟩|⟨at',hat,hfe,_,_⟩
 ·have HFE:=LH hfe
  have SNd:Hid (∀w',Below w.heap.size w w'→Calls Tryz.prog 71 #[.agg #[.slice NA n nc0,.slice LA m lc0],.string (C.Nm i)] w' fun e w''=>e= .returned (.int .i64 (-1))∧Below w'.heap.size w' w''):=fun w' hb=>by rw [←hfe];exact zN6 NA LA n nc0 m lc0 D (C.Nm i) w' hzz.n2 (zB3 HD.out hb)
  clear hv hx hl hD hK hTx hTl hc0 hzz hfe hv2
  go_enter Tryz.func32,Tryz.ntmps32
  go_upto_region 1 with fail
  rw [hW3.out]
  clear hW3
  have HB4:=HX1
  have HSZ4:Hid (w.heap.size+3≤w4.heap.size):=by show _≤_;rw [HSZ3.out];exact nl _
  clear HX1 HSZ3
  obtain ⟨d0,d1⟩:=blk2 HNX.out
  obtain ⟨r0,r1⟩:=blk2 HRX.out
  have g0:=HRX.out.frozen 0
  have g1:=HRX.out.frozen 1
  have e0:=cA0 HCX.out
  go_upto_region 12 with (first
   |(refine wpList_load_row rfl 34 (.tmp 3) rfl _ rfl _ _ (0,0) _ HCX.out Tryz.underlying34 rfl (by kernel_rfl) ?_)
   |(go_at_call 28
     with_reducible refine (SV.out _ HB4.out).mono ?_
     rintro e w4 ⟨rfl,hb4⟩
     clear d0 d1 r0 r1 g0 g1 e0
     obtain ⟨HNX,HCX,HRX,HB4,HSZ4,d0,d1,r0,r1,g0,g1,e0⟩:=bxA HNX HCX HRX HB4 HSZ4 hb4
     clear hb4)
   |(go_at_call 55
     with_reducible refine (SNm.out _ HB4.out).mono ?_
     rintro e w4 ⟨rfl,hb4⟩
     clear d0 d1 r0 r1 g0 g1 e0
     obtain ⟨HNX,HCX,HRX,HB4,HSZ4,d0,d1,r0,r1,g0,g1,e0⟩:=bxA HNX HCX HRX HB4 HSZ4 hb4
     clear hb4)
   |(go_at_call 72
     with_reducible refine (SLk.out _ HB4.out).mono ?_
     rintro e w4 ⟨rfl,hb4⟩
     clear d0 d1 r0 r1 g0 g1 e0
     obtain ⟨HNX,HCX,HRX,HB4,HSZ4,d0,d1,r0,r1,g0,g1,e0⟩:=bxA HNX HCX HRX HB4 HSZ4 hb4
     clear hb4)
   |(go_at_call 54
     with_reducible refine (SOf.out _ HB4.out).mono ?_
     rintro e w4 ⟨rfl,hb4⟩
     clear d0 d1 r0 r1 g0 g1 e0
     obtain ⟨HNX,HCX,HRX,HB4,HSZ4,d0,d1,r0,r1,g0,g1,e0⟩:=bxA HNX HCX HRX HB4 HSZ4 hb4
     clear hb4)
   |(go_at_call 71
     with_reducible refine (SNd.out _ HB4.out).mono ?_
     rintro e w4 ⟨rfl,hb4⟩
     clear d0 d1 r0 r1 g0 g1 e0
     obtain ⟨HNX,HCX,HRX,HB4,HSZ4,d0,d1,r0,r1,g0,g1,e0⟩:=bxA HNX HCX HRX HB4 HSZ4 hb4
     clear hb4))
  have HRS:=LH ((HRX.out.set_ 0 (.slice none 0 0)).set_ 1 (.slice none 0 0))
  obtain ⟨z0,z1⟩:=blk2 HRS.out
  have HBE:Hid (Below w.heap.size w ((w4.setCell ⟨w.heap.size+2,0,none⟩ (.slice none 0 0)).setCell ⟨w.heap.size+2,1,none⟩ (.slice none 0 0))):=(HB4.out.setCell (p:=⟨w.heap.size+2,0,none⟩) (by show w.heap.size≤w.heap.size+2;omega) _).setCell (p:=⟨w.heap.size+2,1,none⟩) (by show w.heap.size≤w.heap.size+2;omega) _
  have HWHY:Hid (apE (recN D n) (recL K m) (chrR 2 C i E j)=9):=apE_9 (.inl ⟨.inl rfl,zE2 HFE.out⟩)
  go_wp2_with fail
  refine bodyPost_ret (v:=.tuple #[.agg #[.slice none 0 0,.slice none 0 0],.int .i64 9]) (by simp [results,Tryz.results32,go_sem,z0,z1]) rfl ?_
  exact zF0 (by decide) HWHY.out rfl HBE.out
 ·have HFE:=LH hfe
  have HAT:=LH hat
  have t1:decide ((0:Int)≤(at':Int))=true:=dU (by omega)
  have t2:decide ((at':Int)<0)=false:=dF (by omega)
  have t3:decide ((at':Int) ≥ 0)=true:=dU (by omega)
  have SNd:Hid (∀w',Below w.heap.size w w'→Calls Tryz.prog 71 #[.agg #[.slice NA n nc0,.slice LA m lc0],.string (C.Nm i)] w' fun e w''=>e= .returned (.int .i64 ((at':Int)))∧Below w'.heap.size w' w''):=fun w' hb=>by rw [←hfe];exact zN6 NA LA n nc0 m lc0 D (C.Nm i) w' hzz.n2 (zB3 HD.out hb)
  clear hat hv hx hl hD hK hTx hTl hc0 hzz hfe hv2
  go_enter Tryz.func32,Tryz.ntmps32
  go_upto_region 1 with fail
  rw [hW3.out]
  clear hW3
  have HB4:=HX1
  have HSZ4:Hid (w.heap.size+3≤w4.heap.size):=by show _≤_;rw [HSZ3.out];exact nl _
  clear HX1 HSZ3
  obtain ⟨d0,d1⟩:=blk2 HNX.out
  obtain ⟨r0,r1⟩:=blk2 HRX.out
  have g0:=HRX.out.frozen 0
  have g1:=HRX.out.frozen 1
  have e0:=cA0 HCX.out
  go_upto_region 14 with (first
   |(refine wpList_load_row rfl 34 (.tmp 3) rfl _ rfl _ _ (0,0) _ HCX.out Tryz.underlying34 rfl (by kernel_rfl) ?_)
   |(go_at_call 28
     with_reducible refine (SV.out _ HB4.out).mono ?_
     rintro e w4 ⟨rfl,hb4⟩
     clear d0 d1 r0 r1 g0 g1 e0
     obtain ⟨HNX,HCX,HRX,HB4,HSZ4,d0,d1,r0,r1,g0,g1,e0⟩:=bxA HNX HCX HRX HB4 HSZ4 hb4
     clear hb4)
   |(go_at_call 55
     with_reducible refine (SNm.out _ HB4.out).mono ?_
     rintro e w4 ⟨rfl,hb4⟩
     clear d0 d1 r0 r1 g0 g1 e0
     obtain ⟨HNX,HCX,HRX,HB4,HSZ4,d0,d1,r0,r1,g0,g1,e0⟩:=bxA HNX HCX HRX HB4 HSZ4 hb4
     clear hb4)
   |(go_at_call 72
     with_reducible refine (SLk.out _ HB4.out).mono ?_
     rintro e w4 ⟨rfl,hb4⟩
     clear d0 d1 r0 r1 g0 g1 e0
     obtain ⟨HNX,HCX,HRX,HB4,HSZ4,d0,d1,r0,r1,g0,g1,e0⟩:=bxA HNX HCX HRX HB4 HSZ4 hb4
     clear hb4)
   |(go_at_call 54
     with_reducible refine (SOf.out _ HB4.out).mono ?_
     rintro e w4 ⟨rfl,hb4⟩
     clear d0 d1 r0 r1 g0 g1 e0
     obtain ⟨HNX,HCX,HRX,HB4,HSZ4,d0,d1,r0,r1,g0,g1,e0⟩:=bxA HNX HCX HRX HB4 HSZ4 hb4
     clear hb4)
   |(go_at_call 71
     with_reducible refine (SNd.out _ HB4.out).mono ?_
     rintro e w4 ⟨rfl,hb4⟩
     clear d0 d1 r0 r1 g0 g1 e0
     obtain ⟨HNX,HCX,HRX,HB4,HSZ4,d0,d1,r0,r1,g0,g1,e0⟩:=bxA HNX HCX HRX HB4 HSZ4 hb4
     clear hb4))
  have HN4:=HNX
  have h0:=HNX.out.frozen 0
  have h1:=HNX.out.frozen 1
  go_upto_region 15 with (first
   |(go_at_call 35
     with_reducible refine (SCp.out _ HB4.out).mono ?_
     rintro e w5 ⟨u,rfl,NM,LM,A1,B1,k1,k2,q1,q2,rfl,hr,hb⟩
     rw [zA3] at hr
     rw [zA4] at hr
     rw [zA3,zA4]
     have hN5:=HNX.out.call hb
     obtain ⟨d0,d1⟩:=blk2 hN5
     have h0:=hN5.frozen 0
     have h1:=hN5.frozen 1
     have HCR5:=LH hr
     have HQ1:=LH q1
     have HQ2:=LH q2
     have HB5:=LH hb
     clear hr q1 q2 hb))
  have HNX6:=LH (((HNX.out.call HB5.out).set_ 0 (.slice A1 n k1)).set_ 1 (.slice B1 m k2))
  have HCX6:=LH (((HCX.out.call HB5.out).far (p:=⟨w.heap.size,0,none⟩) (by show w.heap.size+1≠w.heap.size;omega) (.slice A1 n k1)).far (p:=⟨w.heap.size,1,none⟩) (by show w.heap.size+1≠w.heap.size;omega) (.slice B1 m k2))
  have HRX6:=LH (((HRX.out.call HB5.out).far (p:=⟨w.heap.size,0,none⟩) (by show w.heap.size+2≠w.heap.size;omega) (.slice A1 n k1)).far (p:=⟨w.heap.size,1,none⟩) (by show w.heap.size+2≠w.heap.size;omega) (.slice B1 m k2))
  have HB6:=LH (((zA1 HB4.out HB5.out).setCell (p:=⟨w.heap.size,0,none⟩) (nl _) (.slice A1 n k1)).setCell (p:=⟨w.heap.size,1,none⟩) (nl _) (.slice B1 m k2))
  have HCR:Hid (CpR (w.heap.size+3) NM LM (.slice A1 n k1) (.slice B1 m k2) ((w5.setCell ⟨w.heap.size,0,none⟩ (.slice A1 n k1)).setCell ⟨w.heap.size,1,none⟩ (.slice B1 m k2))):=((HCR5.out.low (by have:=HSZ4.out;omega) 0 (.slice A1 n k1)).low (by have:=HSZ4.out;omega) 1 (.slice B1 m k2)).lower HSZ4.out
  have HSZ6:Hid (w.heap.size+3≤((w5.setCell ⟨w.heap.size,0,none⟩ (.slice A1 n k1)).setCell ⟨w.heap.size,1,none⟩ (.slice B1 m k2)).heap.size):=by show _≤_;simp;exact nT HSZ4.out HB5.out.size
  have HLN:Hid (NM.length=n∧LM.length=m):=⟨zQ2 HQ1.out,zQ3 HQ2.out⟩
  clear d0 d1 h0 h1 hN5 r0 r1 g0 g1 e0 HNX HCX HRX HB4 HB5 HCR5 HN4
  have HNX:=HNX6
  have HCX:=HCX6
  have HRX:=HRX6
  have HB4:=HB6
  clear HNX6 HCX6 HRX6 HB6
  generalize (w5.setCell ⟨w.heap.size,0,none⟩ (.slice A1 n k1)).setCell ⟨w.heap.size,1,none⟩ (.slice B1 m k2)=w6 at HNX HCX HRX HB4 HCR HSZ6⊢
  obtain ⟨d0,d1⟩:=blk2 HNX.out
  have e0:=cA0 HCX.out
  have h0:=HNX.out.frozen 0
  have h1:=HNX.out.frozen 1
  go_upto_block 0 with fail
  obtain ⟨e0x,e1x,e2x,e3x,e4x,e5x,e6x,e7x,e8x⟩:=chgN HCX.out
  have HOW:Hid (w6.ownsRow (w.heap.size+3) 30 9 (.slice A1 n k1) n (nc NM)):=by have h:=HCR.out.on;rw [HLN.out.1] at h;exact h
  obtain ⟨g5,c5,hsl,_,_⟩:=HOW.out.form (by have:=HAT.out;omega)
  injection hsl with hs1 hs2 hs3
  subst hs1
  subst hs3
  have t4:(at':Int)<(n:Int):=by have:=HAT.out;omega
  have t5:(0:Int)≤(at':Int):=by omega
  have t6:at'<n:=HAT.out
  go_cut [] from 50 to 139 (fun wx=>∃(A9 B9:Option Addr) (c9 d9:Nat) (D9:Nds) (K9:Lks),Hid (NdIn wx A9 (n) D9)∧Hid (LkIn wx B9 (m) K9)∧Hid (recN D9 (n)=opN (recN D n) (chrR 2 C i E j))∧Hid (recL K9 (m)=opL (recL K m) (chrR 2 C i E j))∧Hid (Blk wx w.heap.size 52 #[.slice A9 (n) c9,.slice B9 (m) d9])∧Hid (Blk wx (w.heap.size+2) 52 #[.slice none 0 0,.slice none 0 0])∧Hid (Below w.heap.size w wx))
  case first=>
   go_upto_region 19 with fail
   go_wp2_with (first
        |(refine zK5 rfl 30 (.tmp 66) (.tmp 65) rfl (w.heap.size+3) 9 g5 n k1 at' 30 (NM.map ncm) (cNd C i) rfl rfl (zL2 _) (by rw [List.length_map];exact HLN.out.1) HAT.out rfl (by simp [Value.oneCell']) (by kernel_rfl) (by rw [zF6];exact HOW.out) ?_
          intro w7 hown7 hgrow7
          have HO7:=LH hown7
          have HG7:=LH hgrow7
          have hg5:=(HOW.out.lt g5 rfl).1
          have HB7:=LH (zA9 HB4.out HB4.out.size hgrow7 (fun g e=>by have:=Option.some.inj e;omega))
          have HN7:=LH (HNX.out.grown hgrow7 (fun e=>by have:=Option.some.inj e;omega))
          have HR7:=LH (HRX.out.grown hgrow7 (fun e=>by have:=Option.some.inj e;omega))
          clear hown7 hgrow7 hg5))
   have HAFT:=LH (HCR.out.aft0 HG7.out (.inl rfl))
   try go_meet
   exact ⟨some ⟨g5,0,none⟩,B1,k1,k2,ndsM (NM.set at' (ndC C i (C.SA i) (C.SC i))),lksM LM,(zX1 (by rw [List.length_set,HLN.out.1]) (by rw [←zF6,List.map_set,show ncm (ndC C i (C.SA i) (C.SC i))=[.string (C.Nm i),.int .i64 (C.Kd i),.int .i64 (C.Ax i),.int .i64 (C.Ay i),.int .i64 (C.Iv i),.int .i64 (C.Gd i),.slice (C.SA i) (C.SN i) (C.SC i),.bool (C.Pt i),.int .i64 (C.Rs i)] from zH0 C i (C.SA i) (C.SC i)];exact HO7.out) (fun p hp=>by rcases List.mem_or_eq_of_mem_set hp with hp |hp;exact HAFT.out.1 p hp;rw [hp];exact zC2 (HTx.out.below (nl _) HB7.out)) (by have:=HLEN.out;omega)),(zX3 HLN.out.2 (by have h:=own_oth0 HCR.out.ol HCR.out.on (by decide) HG7.out;rw [HLN.out.2] at h;exact h) HAFT.out.2 (by have:=HLEN.out;omega)),(by show recN _ _=_;rw [zL8 (by rw [List.length_set,HLN.out.1]),ndx_sett,HQ1.out,opN_2 (by simp [chrR]),show (chrR 2 C i E j).x.nm=C.Nm i from rfl,zQ5,HFE.out,Int.toNat_natCast];rfl),(by show recL _ _=_;rw [zM0 HLN.out.2,HQ2.out,zT7 (by simp [chrR])]),HN7.out,HR7.out,HB7.out⟩
  case rest=>
  obtain ⟨A9,B9,c9,d9,D9,K9,HND,HLK,HE1,HE2,HN9,HR9,HB9⟩:=hcut
  clear HNX HCX HRX HB4 HCR HSZ6 HSZ4
  have HZ9:Hid (ZZ (recN D9 (n)) (recL K9 (m))):=by show ZZ _ _;rw [HE1.out,HE2.out,←HC0.out];exact HZOP.out
  obtain ⟨o0,o1⟩:=blk2 HN9.out
  obtain ⟨r0,r1⟩:=blk2 HR9.out
  have g0:=HR9.out.frozen 0
  have g1:=HR9.out.frozen 1
  have HSZ9:Hid (w.heap.size+2<wc.heap.size):=HR9.out.lt
  have HAP:Hid (ApP (recN D n) (recL K m) (chrR 2 C i E j)):=⟨⟨by simp [chrR],by simp [chrR]⟩,fun q=>absurd q (by simp [chrR]),fun _=>zE1 HFE.out,fun q=>absurd q (by simp [chrR]),fun q=>absurd q (by simp [chrR]),fun q=>absurd q (by simp [chrR]),fun q=>absurd q (by simp [chrR]),fun q=>absurd q (by simp [chrR])⟩
  have HND2:Hid (n≤300∧m≤400):=by show _∧_;have:=HLEN.out;omega
  have l1:decide ((300:Int)<((n:Nat):Int))=false:=dF (by have:=HND2.out;omega)
  have l2:decide (300<n)=false:=dF (by have:=HND2.out;omega)
  have l3:decide (((n:Nat):Int) > 300)=false:=dF (by have:=HND2.out;omega)
  have l4:decide ((400:Int)<((m:Nat):Int))=false:=dF (by have:=HND2.out;omega)
  have l5:decide (400<m)=false:=dF (by have:=HND2.out;omega)
  have l6:decide (((m:Nat):Int) > 400)=false:=dF (by have:=HND2.out;omega)
  by_cases hV:netP D9 (n) K9 (m)
  ·have SV2:Hid (Calls Tryz.prog 28 #[.agg #[.slice A9 (n) c9,.slice B9 (m) d9]] wc fun e w''=>e= .returned (.bool true)∧Below wc.heap.size wc w''):=by
        have h:=zD2 A9 B9 (n) c9 (m) d9 D9 K9 HZ9.out.sz wc HND.out HLK.out
        rw [zA2 hV] at h
        exact h
   have HV:=LH hV
   clear hV
   go_upto_region 37 with (first
        |(go_at_call 28
          with_reducible refine SV2.out.mono ?_
          rintro e w10 ⟨rfl,hb10⟩
          have HB10:=LH (zA1 HB9.out hb10)
          have HND10:=LH (HND.out.below (nl _) hb10)
          have HLK10:=LH (HLK.out.below (nl _) hb10)
          have HN10:=LH (HN9.out.call hb10)
          have HR10:=LH (HR9.out.call hb10)
          have HSZ10:Hid (w.heap.size+2<w10.heap.size):=Nat.lt_of_lt_of_le HSZ9.out hb10.size
          clear hb10))
   clear o0 o1 r0 r1 g0 g1
   obtain ⟨o0,o1⟩:=blk2 HN10.out
   have SC:Hid (Calls Tryz.prog 35 #[.agg #[.slice A9 (n) c9,.slice B9 (m) d9]] w10 fun e w''=>∃u,e= .returned u∧CpPost (recN D9 (n)) (recL K9 (m)) w10 u w''):=zO3 A9 B9 (n) c9 (m) d9 D9 K9 w10 HZ9.out.n2 HZ9.out.m2 HZ9.out.sn HZ9.out.cn HND10.out HLK10.out
   go_wp2_with (first
        |(go_at_call 35
          with_reducible refine SC.out.mono ?_
          rintro e w11 ⟨u,rfl,NM1,LM1,A2,B2,k3,k4,q1,q2,rfl,hr1,hb1⟩
          rw [zA3] at hr1
          rw [zA4] at hr1
          rw [zA3,zA4]
          have HCR1:=LH hr1
          have HP1:=LH q1
          have HP2:=LH q2
          have HB11:=LH (zA1 HB10.out hb1)
          have HR11:=HR10.out.call hb1
          obtain ⟨r0,r1⟩:=blk2 HR11
          have g0:=HR11.frozen 0
          have g1:=HR11.frozen 1
          have HRS:=LH ((HR11.set_ 0 (.slice A2 (n) k3)).set_ 1 (.slice B2 (m) k4))
          obtain ⟨z0,z1⟩:=blk2 HRS.out
          clear hr1 q1 q2 hb1 HR11))
   have HFN:=zE9 HCR1.out HB11.out (g:=w.heap.size+2) (by omega) HSZ10.out
   rw [HP1.out,HP2.out] at HFN
   have HFN:=LH HFN
   refine bodyPost_ret (v:=.tuple #[.agg #[.slice A2 (n) k3,.slice B2 (m) k4],.int .i64 0]) (by simp [results,Tryz.results32,go_sem,z0,z1]) rfl ?_
   exact zH5 HAP.out HE1.out HE2.out HV.out rfl HFN.out
  ·have SV2:Hid (Calls Tryz.prog 28 #[.agg #[.slice A9 (n) c9,.slice B9 (m) d9]] wc fun e w''=>e= .returned (.bool false)∧Below wc.heap.size wc w''):=by
        have h:=zD2 A9 B9 (n) c9 (m) d9 D9 K9 HZ9.out.sz wc HND.out HLK.out
        rw [zA0 hV] at h
        exact h
   have HV:=LH hV
   clear hV
   go_upto_region 36 with (first
        |(go_at_call 28
          with_reducible refine SV2.out.mono ?_
          rintro e w10 ⟨rfl,hb10⟩
          have HB10:=LH (zA1 HB9.out hb10)
          have HR10:=HR9.out.call hb10
          clear r0 r1 g0 g1
          obtain ⟨r0,r1⟩:=blk2 HR10
          have g0:=HR10.frozen 0
          have g1:=HR10.frozen 1
          have HRS:=LH ((HR10.set_ 0 (.slice none 0 0)).set_ 1 (.slice none 0 0))
          obtain ⟨z0,z1⟩:=blk2 HRS.out
          clear hb10 HR10))
   go_wp2_with fail
   refine bodyPost_ret (v:=.tuple #[.agg #[.slice none 0 0,.slice none 0 0],.int .i64 25]) (by simp [results,Tryz.results32,go_sem,z0,z1]) rfl ?_
   exact zK8 HAP.out HE1.out HE2.out HV.out rfl ((HB10.out.setCell (p:=⟨w.heap.size+2,0,none⟩) (by show w.heap.size≤w.heap.size+2;omega) _).setCell (p:=⟨w.heap.size+2,1,none⟩) (by show w.heap.size≤w.heap.size+2;omega) _)
end Go.Proofs.YtchakniaoeodmaaGreatDoor

/- Merged texts of these proofs: ScO3, ScO4. -/
import Derived.Test.YtchakniaoeodmaaGreatDoorScA
namespace Go.Proofs.YtchakniaoeodmaaGreatDoor
open Go.RowKit
set_option linter.unusedVariables false
set_option linter.unusedSimpArgs false
set_option maxRecDepth 100000 in
set_option maxHeartbeats 16000000 in
theorem sc_apply3 (NA LA:Option Addr) (n nc0 m lc0 i j:Nat) (D C:Nds) (K E:Lks) (w:World) (hv:VS (recN D n) (recL K m)) (hx:ZN (zA7 C i)) (hl:ZL (zA5 E j)) (hD:NdIn w NA n D) (hK:LkIn w LA m K) (hTx:TabIn w (C.SA i) (C.SN i) (C.SX i) (C.SY i)) (hTl:TabIn w (E.CA j) (E.CN j) (E.CX j) (E.CY j)):
 Calls Tryz.prog 70 #[.agg #[.slice NA n nc0,.slice LA m lc0],.agg (chA 3 C i E j)] w (ApPost (recN D n) (recL K m) (chrR 3 C i E j) w):=by
 have hzz:=hv.zz
 obtain ⟨c0,hc0⟩:∃c,c=chrR 3 C i E j:=⟨_,rfl⟩
 have hck:c0.kd=3:=by rw [hc0];rfl
 have hcx:c0.x.nm=C.Nm i:=by rw [hc0];rfl
 have hcl:c0.l.nm=E.Nm j:=by rw [hc0];rfl
 have HZOP:Hid (ZZ (opN (recN D n) c0) (opL (recL K m) c0)):=ZZ.op hv (by rw [hc0];exact hx) (by rw [hc0];exact hl)
 have HC0:=LH hc0
 have HLEN:Hid (n≤300∧m≤400):=⟨by have:=hv.n300;rwa [zA3] at this,by have:=hv.l400;rwa [zA4] at this⟩
 have HD:=LH hD
 have HK:=LH hK
 rcases zC4 D.Nm n (C.Nm i) with ⟨hfe,_⟩|⟨at',hat,hfe,_,_⟩
 ·have HFE:=LH hfe
  obtain ⟨W3,hW3,HAL,HNX,HCX,HRX,HSZ3⟩:=bx3 w #[.slice NA n nc0,.slice LA m lc0] (chA 3 C i E j) #[.slice none 0 0,.slice none 0 0] 52 34 52
  have SO:=LH (zE8 3)
  rw [dU (show (1:Int)≤3∧(3:Int)≤6 by omega)] at SO
  have SF:Hid (∀w',Below w.heap.size w w'→Calls Tryz.prog 74 #[.agg #[.slice NA n nc0,.slice LA m lc0],.agg (chA 3 C i E j)] w' fun e w''=>e= .returned (.int .i64 (-1))∧Below w'.heap.size w' w''):=fun w' hb=>zF1 NA LA (C.SA i) (E.CA j) n nc0 m lc0 (C.SN i) (C.SC i) (E.CN j) (E.CC j) D K 3 (C.Kd i) (C.Ax i) (C.Ay i) (C.Iv i) (C.Gd i) (C.Rs i) (E.Kd j) (E.Ln j) (E.Up j) (E.Dn j) (E.Wd j) (E.Ht j) (C.Nm i) (E.Nm j) (E.Fr j) (E.To j) (E.Sc j) (C.Pt i) w' hzz.n2 hzz.m2 (HD.out.below (nl _) hb) (HK.out.below (nl _) hb) (-1) (by rw [←hfe];simp)
  obtain ⟨jb,hjb⟩:∃jb,jb=boolOf (zF8 (recL K m) (C.Nm i)):=⟨_,rfl⟩
  have SJ:Hid (∀w',Below w.heap.size w w'→Calls Tryz.prog 120 #[.agg #[.slice NA n nc0,.slice LA m lc0],.string (C.Nm i)] w' fun e w''=>e= .returned (.bool jb)∧Below w'.heap.size w' w''):=fun w' hb=>sc_joined NA LA n nc0 m lc0 K (C.Nm i) w' hzz.m2 (HK.out.below (nl _) hb) jb (by rw [hjb,zR1,zQ4])
  have SCL:Hid (∀w',Below w.heap.size w w'→Calls Tryz.prog 116 #[.slice NA n nc0] w' fun e w''=>∃v,e= .returned v∧w''.ownsRow w'.heap.size 30 9 v n (nc (nmO D n))∧Below w'.heap.size w' w''):=fun w' hb=>by
   have h:=zT9 NA n nc0 ((nmO D n).map ncm) (zL2 _) (by rw [List.length_map];exact zE5 _ _) (by have:=HLEN.out;omega) w' (zO4 (HD.out.below (nl _) hb))
   rw [zF6] at h
   exact h
  clear hfe hv hx hl hD hK hTx hTl hc0 hck hcx hcl hzz
  go_enter Tryz.func70,Tryz.ntmps70
  go_upto_region 1 with fail
  rw [hW3.out]
  clear hW3
  obtain ⟨d0,d1⟩:=blk2 HNX.out
  go_upto_region 2 with (first
   |(refine wpList_load_row rfl 34 (.tmp 3) rfl _ rfl _ _ (0,0) _ HCX.out Tryz.underlying34 rfl (by kernel_rfl) ?_)
   |(go_at_call 74
     with_reducible refine (SF.out _ HAL.out).mono ?_
     rintro e w4 ⟨rfl,hb4⟩
     have HNX4:=LH (HNX.out.call hb4)
     have HCX4:=LH (HCX.out.call hb4)
     have HRX4:=LH (HRX.out.call hb4)
     have HB4:=LH (zA1 HAL.out hb4)
     have HSZ4:Hid (w.heap.size+3≤w4.heap.size):=by show _≤_;rw [←HSZ3.out];exact hb4.size
     clear hb4))
  clear d0 d1 HNX HCX HRX SF HAL
  have HNX:=HNX4
  have HCX:=HCX4
  have HRX:=HRX4
  clear HNX4 HCX4 HRX4 HSZ3
  obtain ⟨d0,d1⟩:=blk2 HNX.out
  obtain ⟨r0,r1⟩:=blk2 HRX.out
  have g0:=HRX.out.frozen 0
  have g1:=HRX.out.frozen 1
  have e0:=cA0 HCX.out
  have e1:=cA1 HCX.out
  have e10:=cA10 HCX.out
  have HRS:=LH ((HRX.out.set_ 0 (.slice none 0 0)).set_ 1 (.slice none 0 0))
  obtain ⟨z0,z1⟩:=blk2 HRS.out
  have HBE:Hid (Below w.heap.size w ((w4.setCell ⟨w.heap.size+2,0,none⟩ (.slice none 0 0)).setCell ⟨w.heap.size+2,1,none⟩ (.slice none 0 0))):=(HB4.out.setCell (p:=⟨w.heap.size+2,0,none⟩) (by show w.heap.size≤w.heap.size+2;omega) _).setCell (p:=⟨w.heap.size+2,1,none⟩) (by show w.heap.size≤w.heap.size+2;omega) _
  have HWHY:Hid (apE (recN D n) (recL K m) (chrR 3 C i E j)=9):=apE_9 (.inl ⟨.inr rfl,zE2 HFE.out⟩)
  go_wp2_with (first
   |(go_at_call 119;(with_reducible refine (SO.out _).mono ?_);rintro e w' ⟨rfl,hw'⟩;obtain rfl:w4=w':=hw'.symm))
  refine bodyPost_ret (v:=.tuple #[.agg #[.slice none 0 0,.slice none 0 0],.int .i64 9]) (by simp [results,Tryz.results70,go_sem,z0,z1]) rfl ?_
  exact zF0 (by decide) HWHY.out rfl HBE.out
 ·have HFE:=LH hfe
  have HAT:=LH hat
  have t1:decide ((0:Int)≤(at':Int))=true:=dU (by omega)
  have t2:decide ((at':Int)<0)=false:=dF (by omega)
  have t3:decide ((at':Int) ≥ 0)=true:=dU (by omega)
  obtain ⟨W3,hW3,HAL,HNX,HCX,HRX,HSZ3⟩:=bx3 w #[.slice NA n nc0,.slice LA m lc0] (chA 3 C i E j) #[.slice none 0 0,.slice none 0 0] 52 34 52
  have SO:=LH (zE8 3)
  rw [dU (show (1:Int)≤3∧(3:Int)≤6 by omega)] at SO
  have SF:Hid (∀w',Below w.heap.size w w'→Calls Tryz.prog 74 #[.agg #[.slice NA n nc0,.slice LA m lc0],.agg (chA 3 C i E j)] w' fun e w''=>e= .returned (.int .i64 ((at':Int)))∧Below w'.heap.size w' w''):=fun w' hb=>zF1 NA LA (C.SA i) (E.CA j) n nc0 m lc0 (C.SN i) (C.SC i) (E.CN j) (E.CC j) D K 3 (C.Kd i) (C.Ax i) (C.Ay i) (C.Iv i) (C.Gd i) (C.Rs i) (E.Kd j) (E.Ln j) (E.Up j) (E.Dn j) (E.Wd j) (E.Ht j) (C.Nm i) (E.Nm j) (E.Fr j) (E.To j) (E.Sc j) (C.Pt i) w' hzz.n2 hzz.m2 (HD.out.below (nl _) hb) (HK.out.below (nl _) hb) ((at':Int)) (by rw [←hfe];simp)
  obtain ⟨jb,hjb⟩:∃jb,jb=boolOf (zF8 (recL K m) (C.Nm i)):=⟨_,rfl⟩
  have SJ:Hid (∀w',Below w.heap.size w w'→Calls Tryz.prog 120 #[.agg #[.slice NA n nc0,.slice LA m lc0],.string (C.Nm i)] w' fun e w''=>e= .returned (.bool jb)∧Below w'.heap.size w' w''):=fun w' hb=>sc_joined NA LA n nc0 m lc0 K (C.Nm i) w' hzz.m2 (HK.out.below (nl _) hb) jb (by rw [hjb,zR1,zQ4])
  have SCL:Hid (∀w',Below w.heap.size w w'→Calls Tryz.prog 116 #[.slice NA n nc0] w' fun e w''=>∃v,e= .returned v∧w''.ownsRow w'.heap.size 30 9 v n (nc (nmO D n))∧Below w'.heap.size w' w''):=fun w' hb=>by
   have h:=zT9 NA n nc0 ((nmO D n).map ncm) (zL2 _) (by rw [List.length_map];exact zE5 _ _) (by have:=HLEN.out;omega) w' (zO4 (HD.out.below (nl _) hb))
   rw [zF6] at h
   exact h
  clear hfe hat hv hx hl hD hK hTx hTl hc0 hck hcx hcl hzz
  go_enter Tryz.func70,Tryz.ntmps70
  go_upto_region 1 with fail
  rw [hW3.out]
  clear hW3
  obtain ⟨d0,d1⟩:=blk2 HNX.out
  go_upto_region 2 with (first
   |(refine wpList_load_row rfl 34 (.tmp 3) rfl _ rfl _ _ (0,0) _ HCX.out Tryz.underlying34 rfl (by kernel_rfl) ?_)
   |(go_at_call 74
     with_reducible refine (SF.out _ HAL.out).mono ?_
     rintro e w4 ⟨rfl,hb4⟩
     have HNX4:=LH (HNX.out.call hb4)
     have HCX4:=LH (HCX.out.call hb4)
     have HRX4:=LH (HRX.out.call hb4)
     have HB4:=LH (zA1 HAL.out hb4)
     have HSZ4:Hid (w.heap.size+3≤w4.heap.size):=by show _≤_;rw [←HSZ3.out];exact hb4.size
     clear hb4))
  clear d0 d1 HNX HCX HRX SF HAL
  have HNX:=HNX4
  have HCX:=HCX4
  have HRX:=HRX4
  clear HNX4 HCX4 HRX4 HSZ3
  obtain ⟨d0,d1⟩:=blk2 HNX.out
  obtain ⟨r0,r1⟩:=blk2 HRX.out
  have g0:=HRX.out.frozen 0
  have g1:=HRX.out.frozen 1
  have e0:=cA0 HCX.out
  have e1:=cA1 HCX.out
  have e10:=cA10 HCX.out
  by_cases hJ:zF8 (recL K m) (C.Nm i)
  ·obtain rfl:jb=true:=hjb.trans (zA2 hJ)
   have HJ:=LH hJ
   clear hjb hJ
   go_upto_region 10 with (first
        |(go_at_call 119;(with_reducible refine (SO.out _).mono ?_);rintro e w' ⟨rfl,hw'⟩;obtain rfl:w4=w':=hw'.symm)
        |(go_at_call 120
          with_reducible refine (SJ.out _ HB4.out).mono ?_
          rintro e w4 ⟨rfl,hbj⟩
          have HNX:=LH (HNX.out.call hbj)
          have HCX:=LH (HCX.out.call hbj)
          have HRX:=LH (HRX.out.call hbj)
          have HB4:=LH (zA1 HB4.out hbj)
          have HSZ4:Hid (w.heap.size+3≤w4.heap.size):=nT HSZ4.out hbj.size
          obtain ⟨d0,d1⟩:=blk2 HNX.out
          obtain ⟨r0,r1⟩:=blk2 HRX.out
          have g0:=HRX.out.frozen 0
          have g1:=HRX.out.frozen 1
          have e0:=cA0 HCX.out
          have e1:=cA1 HCX.out
          have e10:=cA10 HCX.out
          clear hbj))
   have HRS:=LH ((HRX.out.set_ 0 (.slice none 0 0)).set_ 1 (.slice none 0 0))
   obtain ⟨z0,z1⟩:=blk2 HRS.out
   have HBE:Hid (Below w.heap.size w ((w4.setCell ⟨w.heap.size+2,0,none⟩ (.slice none 0 0)).setCell ⟨w.heap.size+2,1,none⟩ (.slice none 0 0))):=(HB4.out.setCell (p:=⟨w.heap.size+2,0,none⟩) (by show w.heap.size≤w.heap.size+2;omega) _).setCell (p:=⟨w.heap.size+2,1,none⟩) (by show w.heap.size≤w.heap.size+2;omega) _
   have HWHY:Hid (apE (recN D n) (recL K m) (chrR 3 C i E j)=13):=apE_13 rfl (zE1 HFE.out) HJ.out
   go_wp2_with (first
        |(go_at_call 119;(with_reducible refine (SO.out _).mono ?_);rintro e w' ⟨rfl,hw'⟩;obtain rfl:w4=w':=hw'.symm))
   refine bodyPost_ret (v:=.tuple #[.agg #[.slice none 0 0,.slice none 0 0],.int .i64 13]) (by simp [results,Tryz.results70,go_sem,z0,z1]) rfl ?_
   exact zF0 (by decide) HWHY.out rfl HBE.out
  ·obtain rfl:jb=false:=hjb.trans (zA0 hJ)
   have HJ:=LH hJ
   clear hjb hJ
   go_upto_block 1 with (first
        |(go_at_call 119;(with_reducible refine (SO.out _).mono ?_);rintro e w' ⟨rfl,hw'⟩;obtain rfl:w4=w':=hw'.symm)
        |(go_at_call 120
          with_reducible refine (SJ.out _ HB4.out).mono ?_
          rintro e w4 ⟨rfl,hbj⟩
          have HNX:=LH (HNX.out.call hbj)
          have HCX:=LH (HCX.out.call hbj)
          have HRX:=LH (HRX.out.call hbj)
          have HB4:=LH (zA1 HB4.out hbj)
          have HSZ4:Hid (w.heap.size+3≤w4.heap.size):=nT HSZ4.out hbj.size
          obtain ⟨d0,d1⟩:=blk2 HNX.out
          obtain ⟨r0,r1⟩:=blk2 HRX.out
          have g0:=HRX.out.frozen 0
          have g1:=HRX.out.frozen 1
          have e0:=cA0 HCX.out
          have e1:=cA1 HCX.out
          have e10:=cA10 HCX.out
          clear hbj))
   have hb40:=HB4.out
   obtain ⟨e0x,e1x,e2x,e3x,e4x,e5x,e6x,e7x,e8x⟩:=chgN (show Blk w4 (w.heap.size+1) 34 (chA 3 C i E j) from HCX.out)
   have p0:=(HNX.out.alloc (Obj.cells (cNd C i) 30)).cell 0
   simp only [chA,List.getElem?_toArray,List.getElem?_cons_zero,List.getElem?_cons_succ] at p0
   have HN2:Hid (n≤2000):=by show _≤_;have:=HLEN.out;omega
   have HAT2:=HAT
   obtain ⟨i1,hi1⟩:∃z,z=at'+1:=⟨_,rfl⟩
   have x0:IntKind.i64.wrap ((at':Int)+1)=(i1:Int):=by have:=HN2.out;have:=HAT.out;rw [IntKind.wrap_i64];omega
   have HI1:=LH hi1
   clear hi1 e1 e10 r0 r1 g0 g1
   go_cut [] from 76 to 141 (fun wx=>∃(A9:Option Addr) (c9:Nat),Hid (wx.ownsRow w.heap.size 30 9 (.slice A9 (n - 1) c9) (n - 1) (nc ((nmO D n).eraseIdx at')))∧Hid (Blk wx w.heap.size 52 #[.slice A9 (n - 1) c9,.slice LA m lc0])∧Hid (Blk wx (w.heap.size+2) 52 #[.slice none 0 0,.slice none 0 0])∧Hid (Below w.heap.size w wx))
   case first=>
        go_upto_region 19 with fail
        clear e0x e1x e2x e3x e4x e5x e6x e7x e8x
        go_wp2_with (first
         |(go_at_call 116
           with_reducible refine (SCL.out _ ?_).mono ?_
           focus (exact bel)
           rintro e w5 ⟨v5,rfl,ho5,hb5⟩
           obtain ⟨g5,c5,rfl,_,_⟩:=ho5.form (by have:=HAT.out;omega)
           have hq5:Below w4.heap.size w4 w5:=Below.trans bel (hb5.mono (by simp<;> omega))
           have HO5:Hid (w5.ownsRow w4.heap.size 30 9 (.slice (some ⟨g5,0,none⟩) n c5) n ((nmO D n).map ncm).flatten):=by rw [zF6];exact zB7 ho5 (by simp<;> omega)
           have p1:=(HNX.out.call hq5).cell 0
           have p2:=((HNX.out.call hq5).alloc (Obj.cells (cNd C i) 30)).cell 0
           simp only [chA,List.getElem?_toArray,List.getElem?_cons_zero,List.getElem?_cons_succ] at p1 p2
           have HQ5:=LH hq5
           try (have hZ:=by first |exact blkz hb5 |exact blkd hb5)
           clear ho5 hb5)
         |(go_at_call 122
           with_reducible refine (ndelete w4.heap.size g5 n c5 at' i1 ((nmO D n).map ncm) (zL2 _) (by rw [List.length_map];exact zE5 _ _) HN2.out HAT.out HI1.out _ HO5.out).mono ?_
           rintro e w6 ⟨rfl,hown6,hgrow6⟩
           have hq6:Below w4.heap.size w4 w6:=zA9 HQ5.out HQ5.out.size hgrow6 (fun g e=>(HO5.out.lt g e).1)
           have HO6:=LH hown6
           have HQ6:=LH hq6
           have x1:=(HNX.out.call hq6).cell 0
           have x2:=(HNX.out.call hq6).frozen 0
           simp only [chA,List.getElem?_toArray,List.getElem?_cons_zero,List.getElem?_cons_succ] at x1
           clear hown6 hgrow6))
        all_goals
         have HO9:Hid ((w6.setCell ⟨w.heap.size,0,none⟩ (.slice (some ⟨g5,0,none⟩) (n - 1) c5)).ownsRow w.heap.size 30 9 (.slice (some ⟨g5,0,none⟩) (n - 1) c5) (n - 1) (nc ((nmO D n).eraseIdx at'))):=by
          have h:=zA6 (i:=0) (x:=.slice (some ⟨g5,0,none⟩) (n - 1) c5) HO6.out (show w.heap.size<w4.heap.size by have:=HSZ4.out;omega)
          rw [map_era_n] at h
          exact zB7 h (by have:=HSZ4.out;omega)
         have HN9:=LH ((HNX.out.call HQ6.out).set_ 0 (.slice (some ⟨g5,0,none⟩) (n - 1) c5))
         have HR9:=LH ((HRX.out.call HQ6.out).far (p:=⟨w.heap.size,0,none⟩) (by show w.heap.size+2≠w.heap.size;omega) (.slice (some ⟨g5,0,none⟩) (n - 1) c5))
         have HB9:=LH ((zA1 HB4.out HQ6.out).setCell (p:=⟨w.heap.size,0,none⟩) (nl _) (.slice (some ⟨g5,0,none⟩) (n - 1) c5))
         go_meet
         exact ⟨some ⟨g5,0,none⟩,c5,HO9.out,HN9.out,HR9.out,HB9.out⟩
   case rest=>
   obtain ⟨A9,c9,HO9,HN9,HR9,HB9⟩:=hcut
   clear HCX HRX HNX HB4
   have hlen:(((nmO D n).eraseIdx at')).length=n - 1:=by rw [List.length_eraseIdx,zE5,if_pos HAT.out]
   have HND:Hid (NdIn wc A9 (n - 1) (ndsM ((nmO D n).eraseIdx at'))):=by have h:=nd_made (c:=c9) (A:=A9) (NM:=((nmO D n).eraseIdx at')) (by rw [hlen];exact HO9.out) (fun p hp=>zS2 HD.out p (List.mem_of_mem_eraseIdx hp)) HB9.out (by rw [hlen];have:=HLEN.out;omega);rw [hlen] at h;exact h
   have HLK:Hid (LkIn wc LA (m) K):=zB1 HK.out HB9.out
   have E1:recN (ndsM ((nmO D n).eraseIdx at')) (n - 1)=opN (recN D n) (chrR 3 C i E j):=rec_del rfl HFE.out HAT.out
   have E2:recL K (m)=opL (recL K m) (chrR 3 C i E j):=(zT7 (by simp [chrR])).symm
   have HAP:Hid (ApP (recN D n) (recL K m) (chrR 3 C i E j)):=⟨⟨by simp [chrR],by simp [chrR]⟩,fun q=>absurd q (by simp [chrR]),fun _=>zE1 HFE.out,fun q=>absurd q (by simp [chrR]),fun q=>absurd q (by simp [chrR]),fun _=>HJ.out,fun q=>absurd q (by simp [chrR]),fun q=>absurd q (by simp [chrR])⟩
   have HZ9:Hid (ZZ (recN (ndsM ((nmO D n).eraseIdx at')) (n - 1)) (recL K (m))):=by show ZZ _ _;rw [E1,E2,←HC0.out];exact HZOP.out
   have HE1:=LH E1
   have HE2:=LH E2
   clear E1 E2 hlen HZOP
   generalize (ndsM ((nmO D n).eraseIdx at'))=D9 at HND HZ9 HE1⊢
   obtain ⟨o0,o1⟩:=blk2 HN9.out
   obtain ⟨r0,r1⟩:=blk2 HR9.out
   have HSZ9:Hid (w.heap.size+2<wc.heap.size):=HR9.out.lt
   by_cases hV:netP D9 (n - 1) K (m)
   ·have SV:Hid (Calls Tryz.prog 68 #[.agg #[.slice A9 (n - 1) c9,.slice LA (m) lc0]] wc fun e w''=>e= .returned (.bool true)∧Below wc.heap.size wc w''):=by
     have h:=zF4 A9 LA (n - 1) c9 (m) lc0 D9 K HZ9.out.sz wc HND.out HLK.out
     rw [zA2 hV] at h
     exact h
    have HV:=LH hV
    clear hV
    go_upto_region 28 with (first
     |(go_at_call 68
       with_reducible refine SV.out.mono ?_
       rintro e w10 ⟨rfl,hb10⟩
       have HB10:=LH (zA1 HB9.out hb10)
       have HND10:=LH (HND.out.below (nl _) hb10)
       have HLK10:=LH (HLK.out.below (nl _) hb10)
       have HN10:=LH (HN9.out.call hb10)
       have HR10:=LH (HR9.out.call hb10)
       have HSZ10:Hid (w.heap.size+2<w10.heap.size):=Nat.lt_of_lt_of_le HSZ9.out hb10.size
       clear hb10))
    clear o0 o1 r0 r1
    obtain ⟨o0,o1⟩:=blk2 HN10.out
    have SC:Hid (Calls Tryz.prog 69 #[.agg #[.slice A9 (n - 1) c9,.slice LA (m) lc0]] w10 fun e w''=>∃u,e= .returned u∧CpPost (recN D9 (n - 1)) (recL K (m)) w10 u w''):=zF2 A9 LA (n - 1) c9 (m) lc0 D9 K w10 HZ9.out HND10.out HLK10.out
    go_wp2_with (first
     |(go_at_call 69
       with_reducible refine SC.out.mono ?_
       rintro e w11 ⟨u,rfl,NM1,LM1,A1,B1,k1,k2,q1,q2,rfl,hr1,hb1⟩
       rw [zA3] at hr1
       rw [zA4] at hr1
       rw [zA3,zA4]
       have HCR:=LH hr1
       have HQ1:=LH q1
       have HQ2:=LH q2
       have HB11:=LH (zA1 HB10.out hb1)
       have HR11:=HR10.out.call hb1
       obtain ⟨r0,r1⟩:=blk2 HR11
       have g0:=HR11.frozen 0
       have g1:=HR11.frozen 1
       have HRS:=LH ((HR11.set_ 0 (.slice A1 (n - 1) k1)).set_ 1 (.slice B1 (m) k2))
       obtain ⟨z0,z1⟩:=blk2 HRS.out
       clear hr1 q1 q2 hb1 HR11))
    have HFN:=zE9 HCR.out HB11.out (g:=w.heap.size+2) (by omega) HSZ10.out
    rw [HQ1.out,HQ2.out] at HFN
    have HFN:=LH HFN
    refine bodyPost_ret (v:=.tuple #[.agg #[.slice A1 (n - 1) k1,.slice B1 (m) k2],.int .i64 0]) (by simp [results,Tryz.results70,go_sem,z0,z1]) rfl ?_
    exact zH5 HAP.out HE1.out HE2.out HV.out rfl HFN.out
   ·have SV:Hid (Calls Tryz.prog 68 #[.agg #[.slice A9 (n - 1) c9,.slice LA (m) lc0]] wc fun e w''=>e= .returned (.bool false)∧Below wc.heap.size wc w''):=by
     have h:=zF4 A9 LA (n - 1) c9 (m) lc0 D9 K HZ9.out.sz wc HND.out HLK.out
     rw [zA0 hV] at h
     exact h
    have HV:=LH hV
    clear hV r0 r1
    go_wp2_with (first
     |(go_at_call 68
       with_reducible refine SV.out.mono ?_
       rintro e w10 ⟨rfl,hb10⟩
       have HB10:=LH (zA1 HB9.out hb10)
       have HR10:=HR9.out.call hb10
       obtain ⟨r0,r1⟩:=blk2 HR10
       have g0:=HR10.frozen 0
       have g1:=HR10.frozen 1
       have HRS:=LH ((HR10.set_ 0 (.slice none 0 0)).set_ 1 (.slice none 0 0))
       obtain ⟨z0,z1⟩:=blk2 HRS.out
       clear hb10 HR10))
    refine bodyPost_ret (v:=.tuple #[.agg #[.slice none 0 0,.slice none 0 0],.int .i64 25]) (by simp [results,Tryz.results70,go_sem,z0,z1]) rfl ?_
    exact zK8 HAP.out HE1.out HE2.out HV.out rfl ((HB10.out.setCell (p:=⟨w.heap.size+2,0,none⟩) (by show w.heap.size≤w.heap.size+2;omega) _).setCell (p:=⟨w.heap.size+2,1,none⟩) (by show w.heap.size≤w.heap.size+2;omega) _)
set_option maxRecDepth 100000 in
set_option maxHeartbeats 16000000 in
theorem sc_apply4 (NA LA:Option Addr) (n nc0 m lc0 i j:Nat) (D C:Nds) (K E:Lks) (w:World) (hv:VS (recN D n) (recL K m)) (hx:ZN (zA7 C i)) (hl:ZL (zA5 E j)) (hD:NdIn w NA n D) (hK:LkIn w LA m K) (hTx:TabIn w (C.SA i) (C.SN i) (C.SX i) (C.SY i)) (hTl:TabIn w (E.CA j) (E.CN j) (E.CX j) (E.CY j)):
 Calls Tryz.prog 70 #[.agg #[.slice NA n nc0,.slice LA m lc0],.agg (chA 4 C i E j)] w (ApPost (recN D n) (recL K m) (chrR 4 C i E j) w):=by
 have hzz:=hv.zz
 obtain ⟨c0,hc0⟩:∃c,c=chrR 4 C i E j:=⟨_,rfl⟩
 have hck:c0.kd=4:=by rw [hc0];rfl
 have hcx:c0.x.nm=C.Nm i:=by rw [hc0];rfl
 have hcl:c0.l.nm=E.Nm j:=by rw [hc0];rfl
 have HZOP:Hid (ZZ (opN (recN D n) c0) (opL (recL K m) c0)):=ZZ.op hv (by rw [hc0];exact hx) (by rw [hc0];exact hl)
 have HC0:=LH hc0
 have HLEN:Hid (n≤300∧m≤400):=⟨by have:=hv.n300;rwa [zA3] at this,by have:=hv.l400;rwa [zA4] at this⟩
 have HD:=LH hD
 have HK:=LH hK
 have HTl:=LH hTl
 rcases zC4 K.Nm m (E.Nm j) with ⟨hfe,_⟩|⟨at',hat,hfe,_,_⟩
 ·have HFE:=LH hfe
  obtain ⟨W3,hW3,HAL,HNX,HCX,HRX,HSZ3⟩:=bx3 w #[.slice NA n nc0,.slice LA m lc0] (chA 4 C i E j) #[.slice none 0 0,.slice none 0 0] 52 34 52
  have SO:=LH (zE8 4)
  rw [dU (show (1:Int)≤4∧(4:Int)≤6 by omega)] at SO
  have SF:Hid (∀w',Below w.heap.size w w'→Calls Tryz.prog 74 #[.agg #[.slice NA n nc0,.slice LA m lc0],.agg (chA 4 C i E j)] w' fun e w''=>e= .returned (.int .i64 (-1))∧Below w'.heap.size w' w''):=fun w' hb=>zF1 NA LA (C.SA i) (E.CA j) n nc0 m lc0 (C.SN i) (C.SC i) (E.CN j) (E.CC j) D K 4 (C.Kd i) (C.Ax i) (C.Ay i) (C.Iv i) (C.Gd i) (C.Rs i) (E.Kd j) (E.Ln j) (E.Up j) (E.Dn j) (E.Wd j) (E.Ht j) (C.Nm i) (E.Nm j) (E.Fr j) (E.To j) (E.Sc j) (C.Pt i) w' hzz.n2 hzz.m2 (HD.out.below (nl _) hb) (HK.out.below (nl _) hb) (-1) (by rw [←hfe];simp)
  have SCL:Hid (∀w',Below w.heap.size w w'→Calls Tryz.prog 117 #[.slice LA m lc0] w' fun e w''=>∃v,e= .returned v∧w''.ownsRow w'.heap.size 32 11 v m (lc (lmO K m))∧Below w'.heap.size w' w''):=fun w' hb=>by
   have h:=zU4 LA m lc0 ((lmO K m).map lcm') (zL3 _) (by rw [List.length_map];exact zE6 _ _) (by have:=HLEN.out;omega) w' (zO5 (HK.out.below (nl _) hb))
   rw [zF7] at h
   exact h
  clear hfe hv hx hl hD hK hTx hTl hc0 hck hcx hcl hzz
  go_enter Tryz.func70,Tryz.ntmps70
  go_upto_region 1 with fail
  rw [hW3.out]
  clear hW3
  obtain ⟨d0,d1⟩:=blk2 HNX.out
  go_upto_region 2 with (first
   |(refine wpList_load_row rfl 34 (.tmp 3) rfl _ rfl _ _ (0,0) _ HCX.out Tryz.underlying34 rfl (by kernel_rfl) ?_)
   |(go_at_call 74
     with_reducible refine (SF.out _ HAL.out).mono ?_
     rintro e w4 ⟨rfl,hb4⟩
     have HNX4:=LH (HNX.out.call hb4)
     have HCX4:=LH (HCX.out.call hb4)
     have HRX4:=LH (HRX.out.call hb4)
     have HB4:=LH (zA1 HAL.out hb4)
     have HSZ4:Hid (w.heap.size+3≤w4.heap.size):=by show _≤_;rw [←HSZ3.out];exact hb4.size
     clear hb4))
  clear d0 d1 HNX HCX HRX SF HAL
  have HNX:=HNX4
  have HCX:=HCX4
  have HRX:=HRX4
  clear HNX4 HCX4 HRX4 HSZ3
  obtain ⟨d0,d1⟩:=blk2 HNX.out
  obtain ⟨r0,r1⟩:=blk2 HRX.out
  have g0:=HRX.out.frozen 0
  have g1:=HRX.out.frozen 1
  have e0:=cA0 HCX.out
  have e1:=cA1 HCX.out
  have e10:=cA10 HCX.out
  by_cases hF:400≤m
  ·have u1:decide ((400:Int)≤(m:Int))=true:=dU (by omega)
   have u2:decide (400≤m)=true:=dU hF
   have u3:decide ((m:Int) ≥ 400)=true:=dU (by omega)
   have hF':=LH hF
   clear hF
   have HRS:=LH ((HRX.out.set_ 0 (.slice none 0 0)).set_ 1 (.slice none 0 0))
   obtain ⟨z0,z1⟩:=blk2 HRS.out
   have HBE:Hid (Below w.heap.size w ((w4.setCell ⟨w.heap.size+2,0,none⟩ (.slice none 0 0)).setCell ⟨w.heap.size+2,1,none⟩ (.slice none 0 0))):=(HB4.out.setCell (p:=⟨w.heap.size+2,0,none⟩) (by show w.heap.size≤w.heap.size+2;omega) _).setCell (p:=⟨w.heap.size+2,1,none⟩) (by show w.heap.size≤w.heap.size+2;omega) _
   have HWHY:Hid (apE (recN D n) (recL K m) (chrR 4 C i E j)=4):=apE_4 (.inr ⟨rfl,zI8 HFE.out,by rw [zA4];exact hF'.out⟩)
   go_wp2_with (first
        |(go_at_call 119;(with_reducible refine (SO.out _).mono ?_);rintro e w' ⟨rfl,hw'⟩;obtain rfl:w4=w':=hw'.symm))
   refine bodyPost_ret (v:=.tuple #[.agg #[.slice none 0 0,.slice none 0 0],.int .i64 4]) (by simp [results,Tryz.results70,go_sem,z0,z1]) rfl ?_
   exact zF0 (by decide) HWHY.out rfl HBE.out
  have u1:decide ((400:Int)≤(m:Int))=false:=dF (by omega)
  have u2:decide (400≤m)=false:=dF hF
  have u3:decide ((m:Int) ≥ 400)=false:=dF (by omega)
  have HF:=LH hF
  clear hF
  obtain ⟨i0,hi0,hz0,hz1,hz2⟩:=zB2 zS7
  have HI0:=LH hi0
  have HZ0:=LH hz0
  have HZ1:=LH hz1
  have HZ2:=LH hz2
  clear hi0 hz0 hz1 hz2
  go_upto_block 1 with (first
   |(go_at_call 119;(with_reducible refine (SO.out _).mono ?_);rintro e w' ⟨rfl,hw'⟩;obtain rfl:w4=w':=hw'.symm))
  have hb40:=HB4.out
  obtain ⟨e0x,e1x,e2x,e3x,e4x,e5x,e6x,e7x,e8x,e9x,e10x⟩:=chgL (show Blk w4 (w.heap.size+1) 34 (chA 4 C i E j) from HCX.out)
  have p0:=(HNX.out.alloc (Obj.cells (cLk E j) 32)).cell 1
  simp only [chA,List.getElem?_toArray,List.getElem?_cons_zero,List.getElem?_cons_succ] at p0
  have HN2:Hid (m≤2000):=by show _≤_;have:=HLEN.out;omega
  clear e1 e10 r0 r1 g0 g1
  have e0:=e0
  go_cut [] from 76 to 141 (fun wx=>∃(A9:Option Addr) (c9:Nat),Hid (wx.ownsRow w.heap.size 32 11 (.slice A9 (m+1) c9) (m+1) (lc (lmO K m++[(lkC E j (E.CA j) (E.CC j))])))∧Hid (Blk wx w.heap.size 52 #[.slice NA n nc0,.slice A9 (m+1) c9])∧Hid (Blk wx (w.heap.size+2) 52 #[.slice none 0 0,.slice none 0 0])∧Hid (Below w.heap.size w wx))
  case first=>
   go_upto_region 21 with fail
   go_region_law (first
        |(go_simp
          go_at_call 117
          with_reducible refine (SCL.out _ ?_).mono ?_
          focus (exact bel)
          rintro e w5 ⟨v5,rfl,ho5,hb5⟩
          obtain ⟨A5,c5,rfl⟩:=zI9 ho5
          have hq5:Below w4.heap.size w4 w5:=Below.trans bel (hb5.mono (by simp<;> omega))
          have HO5:Hid (w5.ownsRow w4.heap.size 32 11 (.slice A5 m c5) m (lc (lmO K m))):=zB7 ho5 (by simp<;> omega)
          obtain ⟨f0x,f1x,f2x,f3x,f4x,f5x,f6x,f7x,f8x,f9x,f10x⟩:=chgL (show Blk w5 (w.heap.size+1) 34 (chA 4 C i E j) from HCX.out.call hq5)
          have p1:=(HNX.out.call hq5).cell 1
          have p2:=((HNX.out.call hq5).alloc (Obj.cells (cLk E j) 32)).cell 1
          simp only [chA,List.getElem?_toArray,List.getElem?_cons_zero,List.getElem?_cons_succ] at p1 p2
          try (have hZ:=by first |exact blkz hb5 |exact blkd hb5)
          clear ho5 hb5)
        |(refine zC8 _ (by rfl) _ _ _ (by rfl) w4.heap.size 32 i0 _ 11 136 Tryz.underlying50 HI0.out HZ0.out HZ1.out HZ2.out rfl (by omega) (.slice A5 m c5) m (lc (lmO K m)) (by rfl) (HO5.out.alloc _) ⟨w5.heap.size,0,none⟩ 1 1 [.string (E.Nm j),.string (E.Fr j),.string (E.To j),.int .i64 (E.Kd j),.int .i64 (E.Ln j),.int .i64 (E.Up j),.int .i64 (E.Dn j),.string (E.Sc j),.int .i64 (E.Wd j),.int .i64 (E.Ht j),.slice (E.CA j) (E.CN j) (E.CC j)] (by rfl) (by rfl) (World.news_of_block (cs:=(cLk E j)) (t:=32) (fr:=(0,0)) (heap_alloc_new w5 _)) (by simp [Value.oneCell']) (zN8 HN2.out) (hby_lk HN2.out) (zC6 hq5.size _) ?_
          intro A6 c6 w6 hown6 hgrow6
          have hq6:Below w4.heap.size w4 w6:=zA9 (hq5.alloc hq5.size _) (zC6 hq5.size _) hgrow6 (fun g e=>(HO5.out.lt g e).1)
          have HO6:=LH hown6
          have HQ6:=LH hq6
          have x0:=(HNX.out.call hq6).cell 1
          have x1:=(HNX.out.call hq6).frozen 1
          simp only [chA,List.getElem?_toArray,List.getElem?_cons_zero,List.getElem?_cons_succ] at x0
          clear hown6 hgrow6)
        |(refine zC8 _ (by rfl) _ _ _ (by rfl) w4.heap.size 32 i0 _ 11 136 Tryz.underlying50 HI0.out HZ0.out HZ1.out HZ2.out rfl (by omega) (.slice A5 m c5) m (lc (lmO K m)) (by rfl) (HO5.out) ⟨w4.heap.size,0,none⟩ 1 1 [.string (E.Nm j),.string (E.Fr j),.string (E.To j),.int .i64 (E.Kd j),.int .i64 (E.Ln j),.int .i64 (E.Up j),.int .i64 (E.Dn j),.string (E.Sc j),.int .i64 (E.Wd j),.int .i64 (E.Ht j),.slice (E.CA j) (E.CN j) (E.CC j)] (by rfl) (by rfl) (World.news_of_block (cs:=(cLk E j)) (t:=32) (fr:=(0,0)) hZ) (by simp [Value.oneCell']) (zN8 HN2.out) (hby_lk HN2.out) hq5.size ?_
          intro A6 c6 w6 hown6 hgrow6
          have hq6:Below w4.heap.size w4 w6:=zA9 hq5 hq5.size hgrow6 (fun g e=>(HO5.out.lt g e).1)
          have HO6:=LH hown6
          have HQ6:=LH hq6
          have x0:=(HNX.out.call hq6).cell 1
          have x1:=(HNX.out.call hq6).frozen 1
          simp only [chA,List.getElem?_toArray,List.getElem?_cons_zero,List.getElem?_cons_succ] at x0
          clear hown6 hgrow6))
   all_goals
        have HO9:Hid ((w6.setCell ⟨w.heap.size,1,none⟩ (.slice A6 (m+1) c6)).ownsRow w.heap.size 32 11 (.slice A6 (m+1) c6) (m+1) (lc (lmO K m++[(lkC E j (E.CA j) (E.CC j))]))):=by
         have h:=zA6 (i:=1) (x:=.slice A6 (m+1) c6) HO6.out (show w.heap.size<w4.heap.size by have:=HSZ4.out;omega)
         rw [zM1,lc_one,show lcm' (lkC E j (E.CA j) (E.CC j))=[.string (E.Nm j),.string (E.Fr j),.string (E.To j),.int .i64 (E.Kd j),.int .i64 (E.Ln j),.int .i64 (E.Up j),.int .i64 (E.Dn j),.string (E.Sc j),.int .i64 (E.Wd j),.int .i64 (E.Ht j),.slice (E.CA j) (E.CN j) (E.CC j)] from zH1 E j (E.CA j) (E.CC j)]
         exact zB7 h (by have:=HSZ4.out;omega)
        have HN9:=LH ((HNX.out.call HQ6.out).set_ 1 (.slice A6 (m+1) c6))
        have HR9:=LH ((HRX.out.call HQ6.out).far (p:=⟨w.heap.size,1,none⟩) (by show w.heap.size+2≠w.heap.size;omega) (.slice A6 (m+1) c6))
        have HB9:=LH ((zA1 HB4.out HQ6.out).setCell (p:=⟨w.heap.size,1,none⟩) (nl _) (.slice A6 (m+1) c6))
        go_wp2_with fail
        go_meet
        exact ⟨A6,c6,HO9.out,HN9.out,HR9.out,HB9.out⟩
  case rest=>
  obtain ⟨A9,c9,HO9,HN9,HR9,HB9⟩:=hcut
  clear HCX HRX HNX HB4
  have hlen:((lmO K m++[(lkC E j (E.CA j) (E.CC j))])).length=m+1:=by simp [lmO]
  have HND:Hid (NdIn wc NA (n) D):=zB3 HD.out HB9.out
  have HLK:Hid (LkIn wc A9 (m+1) (lksM (lmO K m++[(lkC E j (E.CA j) (E.CC j))]))):=by have h:=lk_made (c:=c9) (A:=A9) (LM:=(lmO K m++[(lkC E j (E.CA j) (E.CC j))])) (by rw [hlen];exact HO9.out) (addL_tabs HK.out HTl.out) HB9.out (by rw [hlen];have:=HLEN.out;omega);rw [hlen] at h;exact h
  have E1:recN D (n)=opN (recN D n) (chrR 4 C i E j):=(zW9 (by simp [chrR])).symm
  have E2:recL (lksM (lmO K m++[(lkC E j (E.CA j) (E.CC j))])) (m+1)=opL (recL K m) (chrR 4 C i E j):=recL_add rfl
  have HAP:Hid (ApP (recN D n) (recL K m) (chrR 4 C i E j)):=⟨⟨by simp [chrR],by simp [chrR]⟩,fun q=>absurd q (by simp [chrR]),fun q=>absurd q (by simp [chrR]),fun _=>zI8 HFE.out,fun q=>absurd q (by simp [chrR]),fun q=>absurd q (by simp [chrR]),fun q=>absurd q (by simp [chrR]),fun _=>by rw [zA4];have:=HF.out;omega⟩
  have HZ9:Hid (ZZ (recN D (n)) (recL (lksM (lmO K m++[(lkC E j (E.CA j) (E.CC j))])) (m+1))):=by show ZZ _ _;rw [E1,E2,←HC0.out];exact HZOP.out
  have HE1:=LH E1
  have HE2:=LH E2
  clear E1 E2 hlen HZOP
  generalize (lksM (lmO K m++[(lkC E j (E.CA j) (E.CC j))]))=K9 at HLK HZ9 HE2⊢
  obtain ⟨o0,o1⟩:=blk2 HN9.out
  obtain ⟨r0,r1⟩:=blk2 HR9.out
  have HSZ9:Hid (w.heap.size+2<wc.heap.size):=HR9.out.lt
  by_cases hV:netP D (n) K9 (m+1)
  ·have SV:Hid (Calls Tryz.prog 68 #[.agg #[.slice NA (n) nc0,.slice A9 (m+1) c9]] wc fun e w''=>e= .returned (.bool true)∧Below wc.heap.size wc w''):=by
        have h:=zF4 NA A9 (n) nc0 (m+1) c9 D K9 HZ9.out.sz wc HND.out HLK.out
        rw [zA2 hV] at h
        exact h
   have HV:=LH hV
   clear hV
   go_upto_region 28 with (first
        |(go_at_call 68
          with_reducible refine SV.out.mono ?_
          rintro e w10 ⟨rfl,hb10⟩
          have HB10:=LH (zA1 HB9.out hb10)
          have HND10:=LH (HND.out.below (nl _) hb10)
          have HLK10:=LH (HLK.out.below (nl _) hb10)
          have HN10:=LH (HN9.out.call hb10)
          have HR10:=LH (HR9.out.call hb10)
          have HSZ10:Hid (w.heap.size+2<w10.heap.size):=Nat.lt_of_lt_of_le HSZ9.out hb10.size
          clear hb10))
   clear o0 o1 r0 r1
   obtain ⟨o0,o1⟩:=blk2 HN10.out
   have SC:Hid (Calls Tryz.prog 69 #[.agg #[.slice NA (n) nc0,.slice A9 (m+1) c9]] w10 fun e w''=>∃u,e= .returned u∧CpPost (recN D (n)) (recL K9 (m+1)) w10 u w''):=zF2 NA A9 (n) nc0 (m+1) c9 D K9 w10 HZ9.out HND10.out HLK10.out
   go_wp2_with (first
        |(go_at_call 69
          with_reducible refine SC.out.mono ?_
          rintro e w11 ⟨u,rfl,NM1,LM1,A1,B1,k1,k2,q1,q2,rfl,hr1,hb1⟩
          rw [zA3] at hr1
          rw [zA4] at hr1
          rw [zA3,zA4]
          have HCR:=LH hr1
          have HQ1:=LH q1
          have HQ2:=LH q2
          have HB11:=LH (zA1 HB10.out hb1)
          have HR11:=HR10.out.call hb1
          obtain ⟨r0,r1⟩:=blk2 HR11
          have g0:=HR11.frozen 0
          have g1:=HR11.frozen 1
          have HRS:=LH ((HR11.set_ 0 (.slice A1 (n) k1)).set_ 1 (.slice B1 (m+1) k2))
          obtain ⟨z0,z1⟩:=blk2 HRS.out
          clear hr1 q1 q2 hb1 HR11))
   have HFN:=zE9 HCR.out HB11.out (g:=w.heap.size+2) (by omega) HSZ10.out
   rw [HQ1.out,HQ2.out] at HFN
   have HFN:=LH HFN
   refine bodyPost_ret (v:=.tuple #[.agg #[.slice A1 (n) k1,.slice B1 (m+1) k2],.int .i64 0]) (by simp [results,Tryz.results70,go_sem,z0,z1]) rfl ?_
   exact zH5 HAP.out HE1.out HE2.out HV.out rfl HFN.out
  ·have SV:Hid (Calls Tryz.prog 68 #[.agg #[.slice NA (n) nc0,.slice A9 (m+1) c9]] wc fun e w''=>e= .returned (.bool false)∧Below wc.heap.size wc w''):=by
        have h:=zF4 NA A9 (n) nc0 (m+1) c9 D K9 HZ9.out.sz wc HND.out HLK.out
        rw [zA0 hV] at h
        exact h
   have HV:=LH hV
   clear hV r0 r1
   go_wp2_with (first
        |(go_at_call 68
          with_reducible refine SV.out.mono ?_
          rintro e w10 ⟨rfl,hb10⟩
          have HB10:=LH (zA1 HB9.out hb10)
          have HR10:=HR9.out.call hb10
          obtain ⟨r0,r1⟩:=blk2 HR10
          have g0:=HR10.frozen 0
          have g1:=HR10.frozen 1
          have HRS:=LH ((HR10.set_ 0 (.slice none 0 0)).set_ 1 (.slice none 0 0))
          obtain ⟨z0,z1⟩:=blk2 HRS.out
          clear hb10 HR10))
   refine bodyPost_ret (v:=.tuple #[.agg #[.slice none 0 0,.slice none 0 0],.int .i64 25]) (by simp [results,Tryz.results70,go_sem,z0,z1]) rfl ?_
   exact zK8 HAP.out HE1.out HE2.out HV.out rfl ((HB10.out.setCell (p:=⟨w.heap.size+2,0,none⟩) (by show w.heap.size≤w.heap.size+2;omega) _).setCell (p:=⟨w.heap.size+2,1,none⟩) (by show w.heap.size≤w.heap.size+2;omega) _)
 ·have HFE:=LH hfe
  have t1:decide ((0:Int)≤(at':Int))=true:=dU (by omega)
  have t2:decide ((at':Int)<0)=false:=dF (by omega)
  have t3:decide ((at':Int) ≥ 0)=true:=dU (by omega)
  obtain ⟨W3,hW3,HAL,HNX,HCX,HRX,HSZ3⟩:=bx3 w #[.slice NA n nc0,.slice LA m lc0] (chA 4 C i E j) #[.slice none 0 0,.slice none 0 0] 52 34 52
  have SO:=LH (zE8 4)
  rw [dU (show (1:Int)≤4∧(4:Int)≤6 by omega)] at SO
  have SF:Hid (∀w',Below w.heap.size w w'→Calls Tryz.prog 74 #[.agg #[.slice NA n nc0,.slice LA m lc0],.agg (chA 4 C i E j)] w' fun e w''=>e= .returned (.int .i64 ((at':Int)))∧Below w'.heap.size w' w''):=fun w' hb=>zF1 NA LA (C.SA i) (E.CA j) n nc0 m lc0 (C.SN i) (C.SC i) (E.CN j) (E.CC j) D K 4 (C.Kd i) (C.Ax i) (C.Ay i) (C.Iv i) (C.Gd i) (C.Rs i) (E.Kd j) (E.Ln j) (E.Up j) (E.Dn j) (E.Wd j) (E.Ht j) (C.Nm i) (E.Nm j) (E.Fr j) (E.To j) (E.Sc j) (C.Pt i) w' hzz.n2 hzz.m2 (HD.out.below (nl _) hb) (HK.out.below (nl _) hb) ((at':Int)) (by rw [←hfe];simp)
  have SCL:Hid (∀w',Below w.heap.size w w'→Calls Tryz.prog 117 #[.slice LA m lc0] w' fun e w''=>∃v,e= .returned v∧w''.ownsRow w'.heap.size 32 11 v m (lc (lmO K m))∧Below w'.heap.size w' w''):=fun w' hb=>by
   have h:=zU4 LA m lc0 ((lmO K m).map lcm') (zL3 _) (by rw [List.length_map];exact zE6 _ _) (by have:=HLEN.out;omega) w' (zO5 (HK.out.below (nl _) hb))
   rw [zF7] at h
   exact h
  clear hfe hat hv hx hl hD hK hTx hTl hc0 hck hcx hcl hzz
  go_enter Tryz.func70,Tryz.ntmps70
  go_upto_region 1 with fail
  rw [hW3.out]
  clear hW3
  obtain ⟨d0,d1⟩:=blk2 HNX.out
  go_upto_region 2 with (first
   |(refine wpList_load_row rfl 34 (.tmp 3) rfl _ rfl _ _ (0,0) _ HCX.out Tryz.underlying34 rfl (by kernel_rfl) ?_)
   |(go_at_call 74
     with_reducible refine (SF.out _ HAL.out).mono ?_
     rintro e w4 ⟨rfl,hb4⟩
     have HNX4:=LH (HNX.out.call hb4)
     have HCX4:=LH (HCX.out.call hb4)
     have HRX4:=LH (HRX.out.call hb4)
     have HB4:=LH (zA1 HAL.out hb4)
     have HSZ4:Hid (w.heap.size+3≤w4.heap.size):=by show _≤_;rw [←HSZ3.out];exact hb4.size
     clear hb4))
  clear d0 d1 HNX HCX HRX SF HAL
  have HNX:=HNX4
  have HCX:=HCX4
  have HRX:=HRX4
  clear HNX4 HCX4 HRX4 HSZ3
  obtain ⟨d0,d1⟩:=blk2 HNX.out
  obtain ⟨r0,r1⟩:=blk2 HRX.out
  have g0:=HRX.out.frozen 0
  have g1:=HRX.out.frozen 1
  have e0:=cA0 HCX.out
  have e1:=cA1 HCX.out
  have e10:=cA10 HCX.out
  have HRS:=LH ((HRX.out.set_ 0 (.slice none 0 0)).set_ 1 (.slice none 0 0))
  obtain ⟨z0,z1⟩:=blk2 HRS.out
  have HBE:Hid (Below w.heap.size w ((w4.setCell ⟨w.heap.size+2,0,none⟩ (.slice none 0 0)).setCell ⟨w.heap.size+2,1,none⟩ (.slice none 0 0))):=(HB4.out.setCell (p:=⟨w.heap.size+2,0,none⟩) (by show w.heap.size≤w.heap.size+2;omega) _).setCell (p:=⟨w.heap.size+2,1,none⟩) (by show w.heap.size≤w.heap.size+2;omega) _
  have HWHY:Hid (apE (recN D n) (recL K m) (chrR 4 C i E j)=15):=apE_15 (.inr ⟨rfl,zN0 HFE.out⟩)
  go_wp2_with (first
   |(go_at_call 119;(with_reducible refine (SO.out _).mono ?_);rintro e w' ⟨rfl,hw'⟩;obtain rfl:w4=w':=hw'.symm))
  refine bodyPost_ret (v:=.tuple #[.agg #[.slice none 0 0,.slice none 0 0],.int .i64 15]) (by simp [results,Tryz.results70,go_sem,z0,z1]) rfl ?_
  exact zF0 (by decide) HWHY.out rfl HBE.out
end Go.Proofs.YtchakniaoeodmaaGreatDoor

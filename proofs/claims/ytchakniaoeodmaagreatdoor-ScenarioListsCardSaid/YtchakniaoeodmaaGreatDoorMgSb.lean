/- Merged texts of these proofs: SrO3, SrO4. -/
import Derived.Test.YtchakniaoeodmaaGreatDoorMgT
import Derived.Test.YtchakniaoeodmaaGreatDoorNetW
namespace Go.Proofs.YtchakniaoeodmaaGreatDoor
open Go.RowKit
set_option linter.unusedVariables false
set_option linter.unusedSimpArgs false
set_option maxRecDepth 100000 in
set_option maxHeartbeats 32000000 in
theorem r_apply3 (NA LA:Option Addr) (n nc0 m lc0 i j:Nat) (D C:Nds) (K E:Lks) (w:World) (hv:VS (recN D n) (recL K m)) (hx:ZN (zA7 C i)) (hl:ZL (zA5 E j)) (hD:NdIn w NA n D) (hK:LkIn w LA m K) (hTx:TabIn w (C.SA i) (C.SN i) (C.SX i) (C.SY i)) (hTl:TabIn w (E.CA j) (E.CN j) (E.CX j) (E.CY j)):
 Calls Tryz.prog 32 #[.agg #[.slice NA n nc0,.slice LA m lc0],.agg (chA 3 C i E j)] w (ApPost (recN D n) (recL K m) (chrR 3 C i E j) w):=by
 have hzz:=hv.zz
 obtain ⟨c0,hc0⟩:∃c,c=chrR 3 C i E j:=⟨_,rfl⟩
 have HZOP:Hid (ZZ (opN (recN D n) c0) (opL (recL K m) c0)):=ZZ.op hv (by rw [hc0];exact hx) (by rw [hc0];exact hl)
 have HC0:=LH hc0
 have HLEN:Hid (n≤300∧m≤400):=⟨by have:=hv.n300;rwa [zA3] at this,by have:=hv.l400;rwa [zA4] at this⟩
 have HD:=LH hD
 have HK:=LH hK
 obtain ⟨w4,hW3,HX1,HNX,HCX,HRX,HSZ3⟩:=bx3 w #[.slice NA n nc0,.slice LA m lc0] (chA 3 C i E j) #[.slice none 0 0,.slice none 0 0] 52 34 52
 have SV:Hid (∀w',Below w.heap.size w w'→Calls Tryz.prog 28 #[.agg #[.slice NA n nc0,.slice LA m lc0]] w' fun e w''=>e= .returned (.bool true)∧Below w'.heap.size w' w''):=fun w' hb=>by
  have h:=zD2 NA LA n nc0 m lc0 D K hzz.sz w' (zB3 HD.out hb) (zB1 HK.out hb)
  rw [zA2 hv.to] at h
  exact h
 have SNm:Hid (∀w',Below w.heap.size w w'→Calls Tryz.prog 55 #[.agg (chA 3 C i E j)] w' fun e w''=>e= .returned (.string (C.Nm i))∧Below w'.heap.size w' w''):=fun w' _=>by
  have h:=zW8 3 i j C E w'
  simpa using h
 have SOf:Hid (∀w',Below w.heap.size w w'→Calls Tryz.prog 54 #[.agg (chA 3 C i E j)] w' fun e w''=>e= .returned (.bool true)∧Below w'.heap.size w' w''):=fun w' _=>by
  have h:=zG5 3 i j C E w'
  simpa using h
 have SCp:Hid (∀w',Below w.heap.size w w'→Calls Tryz.prog 35 #[.agg #[.slice NA n nc0,.slice LA m lc0]] w' fun e w''=>∃u,e= .returned u∧CpPost (recN D n) (recL K m) w' u w''):=fun w' hb=>zO3 NA LA n nc0 m lc0 D K w' hzz.n2 hzz.m2 hzz.sn hzz.cn (zB3 HD.out hb) (zB1 HK.out hb)
 obtain ⟨v2,hv2⟩:∃v2,v2=fnd K.Nm m (C.Nm i):=⟨_,rfl⟩
 have SLk:Hid (∀w',Below w.heap.size w w'→Calls Tryz.prog 72 #[.agg #[.slice NA n nc0,.slice LA m lc0],.string (C.Nm i)] w' fun e w''=>e= .returned (.int .i64 v2)∧Below w'.heap.size w' w''):=fun w' hb=>by rw [hv2];exact zL4 NA LA n nc0 m lc0 K (C.Nm i) w' hzz.m2 (zB1 HK.out hb)
 obtain ⟨jk,hjk⟩:=zG8 (fun q=>decide (K.Fr q=C.Nm i∨K.To q=C.Nm i)) m
 have HJK:=LH hjk
 have HJI:Hid (zF8 (recL K m) (C.Nm i)↔jk<m):=by
  show _↔_
  rw [zQ4,zF9 hjk]
  simp
 rcases zC4 D.Nm n (C.Nm i) with ⟨hfe,_⟩|⟨at',hat,hfe,_,_⟩
 ·have HFE:=LH hfe
  have SNd:Hid (∀w',Below w.heap.size w w'→Calls Tryz.prog 71 #[.agg #[.slice NA n nc0,.slice LA m lc0],.string (C.Nm i)] w' fun e w''=>e= .returned (.int .i64 (-1))∧Below w'.heap.size w' w''):=fun w' hb=>by rw [←hfe];exact zN6 NA LA n nc0 m lc0 D (C.Nm i) w' hzz.n2 (zB3 HD.out hb)
  clear hv hx hl hD hK hTx hTl hc0 hzz hfe hv2 hjk
  go_enter Tryz.func32,Tryz.ntmps32
  go_upto_region 1 with fail
  rw [hW3.out]
  clear hW3
  have HB4:=HX1
  have HSZ4:Hid (w.heap.size+3≤w4.heap.size):=by show _≤_;rw [HSZ3.out];exact nl _
  clear HX1 HSZ3
  obtain ⟨d0,d1⟩:=blk2 HNX.out
  obtain ⟨r0,r1⟩:=blk2 HRX.out
  have g0:=HRX.out.frozen 0
  have g1:=HRX.out.frozen 1
  have e0:=cA0 HCX.out
  go_upto_region 12 with (first
   |(refine wpList_load_row rfl 34 (.tmp 3) rfl _ rfl _ _ (0,0) _ HCX.out Tryz.underlying34 rfl (by kernel_rfl) ?_)
   |(go_at_call 28
     with_reducible refine (SV.out _ HB4.out).mono ?_
     rintro e w4 ⟨rfl,hb4⟩
     clear d0 d1 r0 r1 g0 g1 e0
     obtain ⟨HNX,HCX,HRX,HB4,HSZ4,d0,d1,r0,r1,g0,g1,e0⟩:=bxA HNX HCX HRX HB4 HSZ4 hb4
     clear hb4)
   |(go_at_call 55
     with_reducible refine (SNm.out _ HB4.out).mono ?_
     rintro e w4 ⟨rfl,hb4⟩
     clear d0 d1 r0 r1 g0 g1 e0
     obtain ⟨HNX,HCX,HRX,HB4,HSZ4,d0,d1,r0,r1,g0,g1,e0⟩:=bxA HNX HCX HRX HB4 HSZ4 hb4
     clear hb4)
   |(go_at_call 72
     with_reducible refine (SLk.out _ HB4.out).mono ?_
     rintro e w4 ⟨rfl,hb4⟩
     clear d0 d1 r0 r1 g0 g1 e0
     obtain ⟨HNX,HCX,HRX,HB4,HSZ4,d0,d1,r0,r1,g0,g1,e0⟩:=bxA HNX HCX HRX HB4 HSZ4 hb4
     clear hb4)
   |(go_at_call 54
     with_reducible refine (SOf.out _ HB4.out).mono ?_
     rintro e w4 ⟨rfl,hb4⟩
     clear d0 d1 r0 r1 g0 g1 e0
     obtain ⟨HNX,HCX,HRX,HB4,HSZ4,d0,d1,r0,r1,g0,g1,e0⟩:=bxA HNX HCX HRX HB4 HSZ4 hb4
     clear hb4)
   |(go_at_call 71
     with_reducible refine (SNd.out _ HB4.out).mono ?_
     rintro e w4 ⟨rfl,hb4⟩
     clear d0 d1 r0 r1 g0 g1 e0
     obtain ⟨HNX,HCX,HRX,HB4,HSZ4,d0,d1,r0,r1,g0,g1,e0⟩:=bxA HNX HCX HRX HB4 HSZ4 hb4
     clear hb4))
  have HRS:=LH ((HRX.out.set_ 0 (.slice none 0 0)).set_ 1 (.slice none 0 0))
  obtain ⟨z0,z1⟩:=blk2 HRS.out
  have HBE:Hid (Below w.heap.size w ((w4.setCell ⟨w.heap.size+2,0,none⟩ (.slice none 0 0)).setCell ⟨w.heap.size+2,1,none⟩ (.slice none 0 0))):=(HB4.out.setCell (p:=⟨w.heap.size+2,0,none⟩) (by show w.heap.size≤w.heap.size+2;omega) _).setCell (p:=⟨w.heap.size+2,1,none⟩) (by show w.heap.size≤w.heap.size+2;omega) _
  have HWHY:Hid (apE (recN D n) (recL K m) (chrR 3 C i E j)=9):=apE_9 (.inl ⟨.inr rfl,zE2 HFE.out⟩)
  go_wp2_with fail
  refine bodyPost_ret (v:=.tuple #[.agg #[.slice none 0 0,.slice none 0 0],.int .i64 9]) (by simp [results,Tryz.results32,go_sem,z0,z1]) rfl ?_
  exact zF0 (by decide) HWHY.out rfl HBE.out
 ·have HFE:=LH hfe
  have HAT:=LH hat
  have t1:decide ((0:Int)≤(at':Int))=true:=dU (by omega)
  have t2:decide ((at':Int)<0)=false:=dF (by omega)
  have t3:decide ((at':Int) ≥ 0)=true:=dU (by omega)
  have SNd:Hid (∀w',Below w.heap.size w w'→Calls Tryz.prog 71 #[.agg #[.slice NA n nc0,.slice LA m lc0],.string (C.Nm i)] w' fun e w''=>e= .returned (.int .i64 ((at':Int)))∧Below w'.heap.size w' w''):=fun w' hb=>by rw [←hfe];exact zN6 NA LA n nc0 m lc0 D (C.Nm i) w' hzz.n2 (zB3 HD.out hb)
  clear hat hv hx hl hD hK hTx hTl hc0 hzz hfe hv2 hjk
  go_enter Tryz.func32,Tryz.ntmps32
  go_upto_region 1 with fail
  rw [hW3.out]
  clear hW3
  have HB4:=HX1
  have HSZ4:Hid (w.heap.size+3≤w4.heap.size):=by show _≤_;rw [HSZ3.out];exact nl _
  clear HX1 HSZ3
  obtain ⟨d0,d1⟩:=blk2 HNX.out
  obtain ⟨r0,r1⟩:=blk2 HRX.out
  have g0:=HRX.out.frozen 0
  have g1:=HRX.out.frozen 1
  have e0:=cA0 HCX.out
  go_upto_region 14 with (first
   |(refine wpList_load_row rfl 34 (.tmp 3) rfl _ rfl _ _ (0,0) _ HCX.out Tryz.underlying34 rfl (by kernel_rfl) ?_)
   |(go_at_call 28
     with_reducible refine (SV.out _ HB4.out).mono ?_
     rintro e w4 ⟨rfl,hb4⟩
     clear d0 d1 r0 r1 g0 g1 e0
     obtain ⟨HNX,HCX,HRX,HB4,HSZ4,d0,d1,r0,r1,g0,g1,e0⟩:=bxA HNX HCX HRX HB4 HSZ4 hb4
     clear hb4)
   |(go_at_call 55
     with_reducible refine (SNm.out _ HB4.out).mono ?_
     rintro e w4 ⟨rfl,hb4⟩
     clear d0 d1 r0 r1 g0 g1 e0
     obtain ⟨HNX,HCX,HRX,HB4,HSZ4,d0,d1,r0,r1,g0,g1,e0⟩:=bxA HNX HCX HRX HB4 HSZ4 hb4
     clear hb4)
   |(go_at_call 72
     with_reducible refine (SLk.out _ HB4.out).mono ?_
     rintro e w4 ⟨rfl,hb4⟩
     clear d0 d1 r0 r1 g0 g1 e0
     obtain ⟨HNX,HCX,HRX,HB4,HSZ4,d0,d1,r0,r1,g0,g1,e0⟩:=bxA HNX HCX HRX HB4 HSZ4 hb4
     clear hb4)
   |(go_at_call 54
     with_reducible refine (SOf.out _ HB4.out).mono ?_
     rintro e w4 ⟨rfl,hb4⟩
     clear d0 d1 r0 r1 g0 g1 e0
     obtain ⟨HNX,HCX,HRX,HB4,HSZ4,d0,d1,r0,r1,g0,g1,e0⟩:=bxA HNX HCX HRX HB4 HSZ4 hb4
     clear hb4)
   |(go_at_call 71
     with_reducible refine (SNd.out _ HB4.out).mono ?_
     rintro e w4 ⟨rfl,hb4⟩
     clear d0 d1 r0 r1 g0 g1 e0
     obtain ⟨HNX,HCX,HRX,HB4,HSZ4,d0,d1,r0,r1,g0,g1,e0⟩:=bxA HNX HCX HRX HB4 HSZ4 hb4
     clear hb4))
  have HN4:=HNX
  have h0:=HNX.out.frozen 0
  have h1:=HNX.out.frozen 1
  go_upto_region 15 with (first
   |(go_at_call 35
     with_reducible refine (SCp.out _ HB4.out).mono ?_
     rintro e w5 ⟨u,rfl,NM,LM,A1,B1,k1,k2,q1,q2,rfl,hr,hb⟩
     rw [zA3] at hr
     rw [zA4] at hr
     rw [zA3,zA4]
     have hN5:=HNX.out.call hb
     obtain ⟨d0,d1⟩:=blk2 hN5
     have h0:=hN5.frozen 0
     have h1:=hN5.frozen 1
     have HCR5:=LH hr
     have HQ1:=LH q1
     have HQ2:=LH q2
     have HB5:=LH hb
     clear hr q1 q2 hb))
  have HNX6:=LH (show Blk ((w5.setCell ⟨w.heap.size,0,none⟩ (.slice A1 n k1)).setCell ⟨w.heap.size,1,none⟩ (.slice B1 m k2)) w.heap.size 52 #[.slice A1 n k1,.slice B1 m k2] from ((HNX.out.call HB5.out).set_ 0 (.slice A1 n k1)).set_ 1 (.slice B1 m k2))
  have HCX6:=LH (((HCX.out.call HB5.out).far (p:=⟨w.heap.size,0,none⟩) (by show w.heap.size+1≠w.heap.size;omega) (.slice A1 n k1)).far (p:=⟨w.heap.size,1,none⟩) (by show w.heap.size+1≠w.heap.size;omega) (.slice B1 m k2))
  have HRX6:=LH (((HRX.out.call HB5.out).far (p:=⟨w.heap.size,0,none⟩) (by show w.heap.size+2≠w.heap.size;omega) (.slice A1 n k1)).far (p:=⟨w.heap.size,1,none⟩) (by show w.heap.size+2≠w.heap.size;omega) (.slice B1 m k2))
  have HB6:=LH (((zA1 HB4.out HB5.out).setCell (p:=⟨w.heap.size,0,none⟩) (nl _) (.slice A1 n k1)).setCell (p:=⟨w.heap.size,1,none⟩) (nl _) (.slice B1 m k2))
  have HCR:Hid (CpR (w.heap.size+3) NM LM (.slice A1 n k1) (.slice B1 m k2) ((w5.setCell ⟨w.heap.size,0,none⟩ (.slice A1 n k1)).setCell ⟨w.heap.size,1,none⟩ (.slice B1 m k2))):=((HCR5.out.low (by have:=HSZ4.out;omega) 0 (.slice A1 n k1)).low (by have:=HSZ4.out;omega) 1 (.slice B1 m k2)).lower HSZ4.out
  have HSZ6:Hid (w.heap.size+3≤((w5.setCell ⟨w.heap.size,0,none⟩ (.slice A1 n k1)).setCell ⟨w.heap.size,1,none⟩ (.slice B1 m k2)).heap.size):=by show _≤_;simp;exact nT HSZ4.out HB5.out.size
  have HLN:Hid (NM.length=n∧LM.length=m):=⟨zQ2 HQ1.out,zQ3 HQ2.out⟩
  clear d0 d1 h0 h1 hN5 r0 r1 g0 g1 e0 HNX HCX HRX HB4 HB5 HCR5 HN4
  have HNX:=HNX6
  have HCX:=HCX6
  have HRX:=HRX6
  have HB4:=HB6
  clear HNX6 HCX6 HRX6 HB6
  generalize (w5.setCell ⟨w.heap.size,0,none⟩ (.slice A1 n k1)).setCell ⟨w.heap.size,1,none⟩ (.slice B1 m k2)=w6 at HNX HCX HRX HB4 HCR HSZ6⊢
  obtain ⟨d0,d1⟩:=blk2 HNX.out
  have e0:=cA0 HCX.out
  have h0:=HNX.out.frozen 0
  have h1:=HNX.out.frozen 1
  go_upto_block 0 with fail
  by_cases hJ:zF8 (recL K m) (C.Nm i)
  ·have HJ:=LH hJ
   clear hJ
   have HLI:Hid (LkIn w6 B1 m (lksM LM)):=by have h:=(zG6 HCR.out.ol HCR.out.tl (by have:=HLN.out;have:=HLEN.out;omega)).2;rw [HLN.out.2] at h;exact h
   go_upto_region 22 with fail
   go_loopw [8] (fun u wr=>∃q:Nat,Hid (q≤m∧q≤jk)∧u= .int .i64 q∧wr=w6) (fun u _=>m - (RowKit.intOf u).toNat)
   case atStart=>exact ⟨0,⟨Nat.zero_le _,Nat.zero_le _⟩,rfl,rfl⟩
   case round=>
        obtain ⟨q,Hi,rfl,hwr⟩:=hrel
        obtain rfl:w6=wr:=hwr.symm
        by_cases hlt:q<m
        ·have T0:decide ((q:Int)<(m:Int))=true:=by simp<;> omega
         have T0':decide (q<m)=true:=dU hlt
         obtain ⟨q',hq'⟩:∃z,z=q+1:=⟨_,rfl⟩
         have x0:IntKind.i64.wrap ((q:Int)+1)=(q':Int):=by have:=HLEN.out;rw [IntKind.wrap_i64];omega
         have k0:(0:Int)≤(q:Int):=by omega
         have k1x:(q:Int)<(m:Int):=by omega
         obtain ⟨bl,ol,hBl,_,hC,_⟩:=HLI.out.at hlt
         subst hBl
         have c1:=hC 1 _ rfl
         have c2:=hC 2 _ rfl
         rw [(zS6 HQ2.out hlt).1] at c1
         rw [(zS6 HQ2.out hlt).2] at c2
         have HMS:Hid (m - (RowKit.intOf (Value.int .i64 (q':Int))).toNat<m - (RowKit.intOf (Value.int .i64 (q:Int))).toNat):=by show _<_;simp [RowKit.intOf];omega
         clear hC
         rcases zD7 HJK.out hlt Hi.out.2 with ⟨hp,hik⟩|⟨hp,hik⟩
         · -- the link at hand
           have hpc:=of_decide_eq_true hp
           have HRS:=LH ((HRX.out.set_ 0 (.slice none 0 0)).set_ 1 (.slice none 0 0))
           obtain ⟨z0,z1⟩:=blk2 HRS.out
           obtain ⟨r0,r1⟩:=blk2 HRX.out
           have g0:=HRX.out.frozen 0
           have g1:=HRX.out.frozen 1
           have HBE:Hid (Below w.heap.size w ((w6.setCell ⟨w.heap.size+2,0,none⟩ (.slice none 0 0)).setCell ⟨w.heap.size+2,1,none⟩ (.slice none 0 0))):=(HB4.out.setCell (p:=⟨w.heap.size+2,0,none⟩) (by show w.heap.size≤w.heap.size+2;omega) _).setCell (p:=⟨w.heap.size+2,1,none⟩) (by show w.heap.size≤w.heap.size+2;omega) _
           have HWHY:Hid (apE (recN D n) (recL K m) (chrR 3 C i E j)=13):=apE_13 rfl (zE1 HFE.out) HJ.out
           by_cases hfr:K.Fr q=C.Nm i
           ·rw [hfr] at c1
            clear hp hpc hik hfr
            go_wp2_with fail
            refine bodyPost_ret (v:=.tuple #[.agg #[.slice none 0 0,.slice none 0 0],.int .i64 13]) (by simp [results,Tryz.results32,go_sem,z0,z1]) rfl ?_
            exact zF0 (by decide) HWHY.out rfl HBE.out
           ·have hto:K.To q=C.Nm i:=hpc.resolve_left hfr
            have s1:=str_ne hfr
            rw [hto] at c2
            clear hp hpc hik hfr hto
            go_wp2_with fail
            refine bodyPost_ret (v:=.tuple #[.agg #[.slice none 0 0,.slice none 0 0],.int .i64 13]) (by simp [results,Tryz.results32,go_sem,z0,z1]) rfl ?_
            exact zF0 (by decide) HWHY.out rfl HBE.out
         ·have hpc:=of_decide_eq_false hp
          have s1:=str_ne (fun e=>hpc (.inl e):K.Fr q≠C.Nm i)
          have s2:=str_ne (fun e=>hpc (.inr e):K.To q≠C.Nm i)
          have HI':Hid (q'≤m∧q'≤jk):=by show _∧_;omega
          clear hp hpc hik hq' hlt
          go_wp2_with fail
          go_roundw
          case rel=>exact ⟨q',HI',rfl,by first |trivial |rfl⟩
          case measure=>exact HMS.out
        ·exact absurd (HJI.out.1 HJ.out) (by have:=Hi.out;omega)
  ·have HJ:=LH hJ
   clear hJ
   obtain ⟨i1,hi1⟩:∃z,at'+1=z:=⟨_,rfl⟩
   have HIE:=LH hi1
   clear hi1
   have HLI:Hid (LkIn w6 B1 m (lksM LM)):=by have h:=(zG6 HCR.out.ol HCR.out.tl (by have:=HLN.out;have:=HLEN.out;omega)).2;rw [HLN.out.2] at h;exact h
   have HJN:Hid (¬jk<m):=fun q=>HJ.out (HJI.out.2 q)
   go_cut [5,8,47] from 50 to 139 (fun s5 s8 s47 wx=>∃(A9 B9:Option Addr) (c9 d9:Nat) (D9:Nds) (K9:Lks),Hid (NdIn wx A9 (at'+(n - i1)) D9)∧Hid (LkIn wx B9 (m) K9)∧Hid (recN D9 (at'+(n - i1))=opN (recN D n) (chrR 3 C i E j))∧Hid (recL K9 (m)=opL (recL K m) (chrR 3 C i E j))∧Hid (Blk wx w.heap.size 52 #[.slice A9 (at'+(n - i1)) c9,.slice B9 (m) d9])∧Hid (Blk wx (w.heap.size+2) 52 #[.slice none 0 0,.slice none 0 0])∧Hid (Below w.heap.size w wx))
   case first=>
        go_upto_region 22 with fail
        go_loopw [8] (fun u wr=>∃q:Nat,Hid (q≤m∧q≤jk)∧u= .int .i64 q∧wr=w6) (fun u _=>m - (RowKit.intOf u).toNat)
        case atStart=>exact ⟨0,⟨Nat.zero_le _,Nat.zero_le _⟩,rfl,rfl⟩
        case round=>
         obtain ⟨q,Hi,rfl,hwr⟩:=hrel
         obtain rfl:w6=wr:=hwr.symm
         by_cases hlt:q<m
         ·have T0:decide ((q:Int)<(m:Int))=true:=by simp<;> omega
          have T0':decide (q<m)=true:=dU hlt
          obtain ⟨q',hq'⟩:∃z,z=q+1:=⟨_,rfl⟩
          have x0:IntKind.i64.wrap ((q:Int)+1)=(q':Int):=by have:=HLEN.out;rw [IntKind.wrap_i64];omega
          have k0:(0:Int)≤(q:Int):=by omega
          have k1x:(q:Int)<(m:Int):=by omega
          obtain ⟨bl,ol,hBl,_,hC,_⟩:=HLI.out.at hlt
          subst hBl
          have c1:=hC 1 _ rfl
          have c2:=hC 2 _ rfl
          rw [(zS6 HQ2.out hlt).1] at c1
          rw [(zS6 HQ2.out hlt).2] at c2
          have HMS:Hid (m - (RowKit.intOf (Value.int .i64 (q':Int))).toNat<m - (RowKit.intOf (Value.int .i64 (q:Int))).toNat):=by show _<_;simp [RowKit.intOf];omega
          clear hC
          rcases zD7 HJK.out hlt Hi.out.2 with ⟨hp,hik⟩|⟨hp,hik⟩
          ·exact absurd hlt (by have:=HJN.out;omega)
          ·have hpc:=of_decide_eq_false hp
           have s1:=str_ne (fun e=>hpc (.inl e):K.Fr q≠C.Nm i)
           have s2:=str_ne (fun e=>hpc (.inr e):K.To q≠C.Nm i)
           have HI':Hid (q'≤m∧q'≤jk):=by show _∧_;omega
           clear hp hpc hik hq' hlt
           go_wp2_with fail
           go_roundw
           case rel=>exact ⟨q',HI',rfl,by first |trivial |rfl⟩
           case measure=>exact HMS.out
         ·have T0:decide ((q:Int)<(m:Int))=false:=by simp<;> omega
          have T0':decide (q<m)=false:=dF hlt
          clear hlt
          obtain ⟨i0,hi0,hz0,hz1,hz2⟩:=zB2 infoNd9
          have HI0:=LH hi0
          have HZ0:=LH hz0
          have HZ1:=LH hz1
          have HZ2:=LH hz2
          clear hi0 hz0 hz1 hz2
          have HIN:Hid (NdIn w6 A1 n (ndsM NM)):=by have h:=(zI5 HCR.out.on HCR.out.tn (by have:=HLN.out;have:=HLEN.out;omega)).2;rw [HLN.out.1] at h;exact h
          have HCD:Hid (n≤k1):=own_cap HCR.out.on
          obtain ⟨b,off,hB,hbl,_,_⟩:=HIN.out.at HAT.out
          subst hB
          clear hbl
          have HO0:Hid ((w6.alloc (.cells #[] 30)).drew.ownsRow w6.heap.size 30 9 (.slice (some ⟨w6.heap.size,0,none⟩) 0 0) 0 []):=zC0 (World.ownsRow_lit w6 #[] 0 (nl _) (by unfold maxLen;omega) rfl) (bR _ _).drew
          have HW4:Hid (Below w6.heap.size w6 (w6.alloc (.cells #[] 30)).drew):=((bR _ w6).alloc (nl _) _).drew
          have HI4:=LH (HIN.out.below (nl _) HW4.out)
          have HNX4:=LH (HNX.out.call HW4.out)
          have k0:(0:Int)≤(at':Int):=by omega
          have kk1:(at':Int)≤(k1:Int):=by have:=HCD.out;have:=HAT.out;omega
          have kk1':at'≤k1:=by have:=HCD.out;have:=HAT.out;omega
          have kk2:(at':Int)<(n:Int):=by have:=HAT.out;omega
          have hi1:=HIE.out
          have x0:IntKind.i64.wrap ((at':Int)+1)=(i1:Int):=by have:=HLEN.out;have:=HAT.out;rw [IntKind.wrap_i64];omega
          have kk3:(0:Int)≤(i1:Int):=by omega
          have kk4:(i1:Int)≤(n:Int):=by have:=HAT.out;omega
          have kk4':i1≤n:=by have:=HAT.out;omega
          have kk5:(i1:Int)≤(k1:Int):=by have:=HCD.out;have:=HAT.out;omega
          have kk5':i1≤k1:=by have:=HCD.out;have:=HAT.out;omega
          have kk6:(n:Int)≤(k1:Int):=by have:=HCD.out;omega
          have kk6':n≤k1:=HCD.out
          clear hi1
          have c_b:=HNX4.out.cell 0
          have c_b':(w6.alloc (.cells #[] 30)).cell? ⟨w.heap.size,0,none⟩=some (.slice (some ⟨b,off,none⟩) n k1):=c_b
          simp only [chA,List.getElem?_toArray,List.getElem?_cons_zero,List.getElem?_cons_succ] at c_b
          have HT1:Hid ((nc (NM.take at')).length=at'*9):=by show _=_;rw [nc_len,List.length_take,HLN.out.1,Nat.min_eq_left (by have:=HAT.out;omega)]
          have HT2:Hid ((nc (NM.drop i1)).length=(n - i1)*9):=by show _=_;rw [nc_len,List.length_drop,HLN.out.1]
          have HNW1:Hid (∀q u,(nc (NM.take at'))[q]?=some u→((w6.alloc (.cells #[] 30)).drew).cell? ((⟨b,off,none⟩:Addr).add q)=some u):=nd_news_take (by rw [HLN.out.1];exact HI4.out)
          have HMB:Hid (at'+(n - i1)≤2000∧at'≤2000):=by have:=HLEN.out;have:=HAT.out;exact ⟨by omega,by omega⟩
          obtain ⟨AD,hAD⟩:∃AD:Addr,(if k1=i1 then some (⟨b,off,none⟩:Addr) else some ⟨b,off+i1*9,none⟩)=some AD:=by
           by_cases h:k1=i1
           ·exact ⟨_,by rw [if_pos h]⟩
           ·exact ⟨_,by rw [if_neg h]⟩
          have HAD:=LH hAD
          have HNA:Hid (∀W:World,NdIn W (some ⟨b,off,none⟩) (NM).length (ndsM NM)→∀q u,(nc (NM.drop i1))[q]?=some u→W.cell? (AD.add q)=some u):=fun W hW q u hj=>by
           by_cases h:k1=i1
           ·rw [List.drop_eq_nil_of_le (show (NM).length≤i1 by rw [HLN.out.1];have:=HCD.out;omega)] at hj
            simp [nc] at hj
           ·rw [if_neg h] at hAD
            cases hAD
            exact nd_news_drop hW q u hj
          clear hAD
          go_upto_region 26 with fail
          go_region_law (first
           |(refine zC8 _ (by rfl) _ _ _ (by rfl) w6.heap.size 30 i0 _ 9 96 Tryz.underlying49 HI0.out HZ0.out HZ1.out HZ2.out rfl (by omega) (.slice (some ⟨w6.heap.size,0,none⟩) 0 0) 0 [] (by rfl) HO0.out ⟨b,off,none⟩ at' k1 (nc (NM.take at')) (by rfl) HT1.out HNW1.out (nc_cell _) (h63_k (Nat.zero_le _) HMB.out.2) (by have:=HMB.out.2;omega) HW4.out.size ?_
             intro A5 cap5 wA hownA hgrowA
             rw [Nat.zero_add,List.nil_append] at hownA
             rw [Nat.zero_add]
             have HOW:=LH hownA
             have HBA:Hid (Below w6.heap.size w6 wA):=zA9 HW4.out HW4.out.size hgrowA (fun g e=>by simp [Value.ownBlock] at e;omega)
             have c_c:=(HNX.out.call HBA.out).cell 0
             simp only [chA,List.getElem?_toArray,List.getElem?_cons_zero,List.getElem?_cons_succ] at c_c
             have HNW2:Hid (∀q u,(nc (NM.drop i1))[q]?=some u→wA.cell? (AD.add q)=some u):=HNA.out wA (by rw [HLN.out.1];exact HIN.out.below (nl _) HBA.out)
             clear hownA hgrowA)
           |(refine zC8 _ (by rfl) _ _ _ (by rfl) w6.heap.size 30 i0 _ 9 96 Tryz.underlying49 HI0.out HZ0.out HZ1.out HZ2.out rfl (by omega) (.slice A5 at' cap5) at' (nc (NM.take at')) (by rfl) HOW.out AD (n - i1) (k1 - i1) (nc (NM.drop i1)) (by show Value.slice (if k1=i1 then some ⟨b,off,none⟩ else some ⟨b,off+i1*9,none⟩) (n - i1) (k1 - i1)=_;rw [HAD.out]) HT2.out HNW2.out (nc_cell _) (h63_k HMB.out.2 (by have:=HMB.out;omega)) (by have:=HMB.out.1;omega) HBA.out.size ?_
             intro A6 cap6 wB hownB hgrowB
             have HOB:=LH hownB
             have HBB:Hid (Below w6.heap.size w6 wB):=zA9 HBA.out HBA.out.size hgrowB (fun g e=>(HOW.out.lt g e).1)
             have c_d:=(HNX.out.call HBB.out).cell 0
             simp only [chA,List.getElem?_toArray,List.getElem?_cons_zero,List.getElem?_cons_succ] at c_d
             have f_d:=(HNX.out.call HBB.out).frozen 0
             clear hownB hgrowB))
          all_goals
           have HML:Hid ((NM.take at'++NM.drop i1).length=at'+(n - i1)):=by show _=_;rw [List.length_append,List.length_take,List.length_drop,HLN.out.1];have:=HIE.out;have:=HAT.out;omega
           have HN9:=LH ((HNX.out.call HBB.out).set_ 0 (.slice A6 (at'+(n - i1)) cap6))
           have HR9:=LH ((HRX.out.call HBB.out).far (p:=⟨w.heap.size,0,none⟩) (by show w.heap.size+2≠w.heap.size;omega) (.slice A6 (at'+(n - i1)) cap6))
           have HB9:=LH ((zA1 HB4.out HBB.out).setCell (p:=⟨w.heap.size,0,none⟩) (nl _) (.slice A6 (at'+(n - i1)) cap6))
           have HCR9:=LH ((HCR.out.call HBB.out).low (show w.heap.size<w.heap.size+3 by omega) 0 (.slice A6 (at'+(n - i1)) cap6))
           have HO9:Hid ((wB.setCell ⟨w.heap.size,0,none⟩ (.slice A6 (at'+(n - i1)) cap6)).ownsRow (w.heap.size+3) 30 9 (.slice A6 (at'+(n - i1)) cap6) (at'+(n - i1)) (nc (NM.take at'++NM.drop i1))):=by rw [zL9];exact zA6 (zB7 HOB.out HSZ6.out) (by omega)
           clear c_b c_b' c_c c_d f_d
           go_wp2_with fail
           all_goals go_meet
           all_goals exact ⟨A6,B1,cap6,k2,ndsM (NM.take at'++NM.drop i1),lksM LM,(zX1 HML.out HO9.out (fun p hp=>(HCR9.out.tn p (by rcases List.mem_append.1 hp with hp |hp;exact List.mem_of_mem_take hp;exact List.mem_of_mem_drop hp)).1) (by have:=HLEN.out;omega)),(zX3 HLN.out.2 (by have h:=HCR9.out.ol;rw [HLN.out.2] at h;exact h) (fun p hp=>(HCR9.out.tl p hp).1) (by have:=HLEN.out;omega)),(by show recN _ _=_;rw [zL8 HML.out,←HIE.out,←List.eraseIdx_eq_take_drop_succ,ndx_erase,HQ1.out,opN_3 (by simp [chrR]),show (chrR 3 C i E j).x.nm=C.Nm i from rfl,zQ5,HFE.out,Int.toNat_natCast]),(by show recL _ _=_;rw [zM0 HLN.out.2,HQ2.out,zT7 (by simp [chrR])]),HN9.out,HR9.out,HB9.out⟩
   case rest=>
   obtain ⟨A9,B9,c9,d9,D9,K9,HND,HLK,HE1,HE2,HN9,HR9,HB9⟩:=hcut
   clear HNX HCX HRX HB4 HCR HSZ6 HSZ4
   generalize hq9:at'+(n - i1)=q9 at HND HE1 HN9
   have HQ9:=LH hq9
   clear hq9
   have HZ9:Hid (ZZ (recN D9 (q9)) (recL K9 (m))):=by show ZZ _ _;rw [HE1.out,HE2.out,←HC0.out];exact HZOP.out
   obtain ⟨o0,o1⟩:=blk2 HN9.out
   obtain ⟨r0,r1⟩:=blk2 HR9.out
   have g0:=HR9.out.frozen 0
   have g1:=HR9.out.frozen 1
   have HSZ9:Hid (w.heap.size+2<wc.heap.size):=HR9.out.lt
   have HAP:Hid (ApP (recN D n) (recL K m) (chrR 3 C i E j)):=⟨⟨by simp [chrR],by simp [chrR]⟩,fun q=>absurd q (by simp [chrR]),fun _=>zE1 HFE.out,fun q=>absurd q (by simp [chrR]),fun q=>absurd q (by simp [chrR]),fun _=>HJ.out,fun q=>absurd q (by simp [chrR]),fun q=>absurd q (by simp [chrR])⟩
   have HND2:Hid (q9≤300∧m≤400):=by show _∧_;have:=HLEN.out;have:=HQ9.out;have:=HIE.out;have:=HAT.out;omega
   have l1:decide ((300:Int)<((q9:Nat):Int))=false:=dF (by have:=HND2.out;omega)
   have l2:decide (300<q9)=false:=dF (by have:=HND2.out;omega)
   have l3:decide (((q9:Nat):Int) > 300)=false:=dF (by have:=HND2.out;omega)
   have l4:decide ((400:Int)<((m:Nat):Int))=false:=dF (by have:=HND2.out;omega)
   have l5:decide (400<m)=false:=dF (by have:=HND2.out;omega)
   have l6:decide (((m:Nat):Int) > 400)=false:=dF (by have:=HND2.out;omega)
   by_cases hV:netP D9 (q9) K9 (m)
   ·have SV2:Hid (Calls Tryz.prog 28 #[.agg #[.slice A9 (q9) c9,.slice B9 (m) d9]] wc fun e w''=>e= .returned (.bool true)∧Below wc.heap.size wc w''):=by
     have h:=zD2 A9 B9 (q9) c9 (m) d9 D9 K9 HZ9.out.sz wc HND.out HLK.out
     rw [zA2 hV] at h
     exact h
    have HV:=LH hV
    clear hV
    go_upto_region 37 with (first
     |(go_at_call 28
       with_reducible refine SV2.out.mono ?_
       rintro e w10 ⟨rfl,hb10⟩
       have HB10:=LH (zA1 HB9.out hb10)
       have HND10:=LH (HND.out.below (nl _) hb10)
       have HLK10:=LH (HLK.out.below (nl _) hb10)
       have HN10:=LH (HN9.out.call hb10)
       have HR10:=LH (HR9.out.call hb10)
       have HSZ10:Hid (w.heap.size+2<w10.heap.size):=Nat.lt_of_lt_of_le HSZ9.out hb10.size
       clear hb10))
    clear o0 o1 r0 r1 g0 g1
    obtain ⟨o0,o1⟩:=blk2 HN10.out
    have SC:Hid (Calls Tryz.prog 35 #[.agg #[.slice A9 (q9) c9,.slice B9 (m) d9]] w10 fun e w''=>∃u,e= .returned u∧CpPost (recN D9 (q9)) (recL K9 (m)) w10 u w''):=zO3 A9 B9 (q9) c9 (m) d9 D9 K9 w10 HZ9.out.n2 HZ9.out.m2 HZ9.out.sn HZ9.out.cn HND10.out HLK10.out
    go_wp2_with (first
     |(go_at_call 35
       with_reducible refine SC.out.mono ?_
       rintro e w11 ⟨u,rfl,NM1,LM1,A2,B2,k3,k4,q1,q2,rfl,hr1,hb1⟩
       rw [zA3] at hr1
       rw [zA4] at hr1
       rw [zA3,zA4]
       have HCR1:=LH hr1
       have HP1:=LH q1
       have HP2:=LH q2
       have HB11:=LH (zA1 HB10.out hb1)
       have HR11:=HR10.out.call hb1
       obtain ⟨r0,r1⟩:=blk2 HR11
       have g0:=HR11.frozen 0
       have g1:=HR11.frozen 1
       have HRS:=LH ((HR11.set_ 0 (.slice A2 (q9) k3)).set_ 1 (.slice B2 (m) k4))
       obtain ⟨z0,z1⟩:=blk2 HRS.out
       clear hr1 q1 q2 hb1 HR11))
    have HFN:=zE9 HCR1.out HB11.out (g:=w.heap.size+2) (by omega) HSZ10.out
    rw [HP1.out,HP2.out] at HFN
    have HFN:=LH HFN
    refine bodyPost_ret (v:=.tuple #[.agg #[.slice A2 (q9) k3,.slice B2 (m) k4],.int .i64 0]) (by simp [results,Tryz.results32,go_sem,z0,z1]) rfl ?_
    exact zH5 HAP.out HE1.out HE2.out HV.out rfl HFN.out
   ·have SV2:Hid (Calls Tryz.prog 28 #[.agg #[.slice A9 (q9) c9,.slice B9 (m) d9]] wc fun e w''=>e= .returned (.bool false)∧Below wc.heap.size wc w''):=by
     have h:=zD2 A9 B9 (q9) c9 (m) d9 D9 K9 HZ9.out.sz wc HND.out HLK.out
     rw [zA0 hV] at h
     exact h
    have HV:=LH hV
    clear hV
    go_upto_region 36 with (first
     |(go_at_call 28
       with_reducible refine SV2.out.mono ?_
       rintro e w10 ⟨rfl,hb10⟩
       have HB10:=LH (zA1 HB9.out hb10)
       have HR10:=HR9.out.call hb10
       clear r0 r1 g0 g1
       obtain ⟨r0,r1⟩:=blk2 HR10
       have g0:=HR10.frozen 0
       have g1:=HR10.frozen 1
       have HRS:=LH ((HR10.set_ 0 (.slice none 0 0)).set_ 1 (.slice none 0 0))
       obtain ⟨z0,z1⟩:=blk2 HRS.out
       clear hb10 HR10))
    go_wp2_with fail
    refine bodyPost_ret (v:=.tuple #[.agg #[.slice none 0 0,.slice none 0 0],.int .i64 25]) (by simp [results,Tryz.results32,go_sem,z0,z1]) rfl ?_
    exact zK8 HAP.out HE1.out HE2.out HV.out rfl ((HB10.out.setCell (p:=⟨w.heap.size+2,0,none⟩) (by show w.heap.size≤w.heap.size+2;omega) _).setCell (p:=⟨w.heap.size+2,1,none⟩) (by show w.heap.size≤w.heap.size+2;omega) _)
set_option maxRecDepth 100000 in
set_option maxHeartbeats 32000000 in
theorem r_apply4 (NA LA:Option Addr) (n nc0 m lc0 i j:Nat) (D C:Nds) (K E:Lks) (w:World) (hv:VS (recN D n) (recL K m)) (hx:ZN (zA7 C i)) (hl:ZL (zA5 E j)) (hD:NdIn w NA n D) (hK:LkIn w LA m K) (hTx:TabIn w (C.SA i) (C.SN i) (C.SX i) (C.SY i)) (hTl:TabIn w (E.CA j) (E.CN j) (E.CX j) (E.CY j)):
 Calls Tryz.prog 32 #[.agg #[.slice NA n nc0,.slice LA m lc0],.agg (chA 4 C i E j)] w (ApPost (recN D n) (recL K m) (chrR 4 C i E j) w):=by
 have hzz:=hv.zz
 obtain ⟨c0,hc0⟩:∃c,c=chrR 4 C i E j:=⟨_,rfl⟩
 have HZOP:Hid (ZZ (opN (recN D n) c0) (opL (recL K m) c0)):=ZZ.op hv (by rw [hc0];exact hx) (by rw [hc0];exact hl)
 have HC0:=LH hc0
 have HLEN:Hid (n≤300∧m≤400):=⟨by have:=hv.n300;rwa [zA3] at this,by have:=hv.l400;rwa [zA4] at this⟩
 have HD:=LH hD
 have HK:=LH hK
 have HTl:=LH hTl
 obtain ⟨w4,hW3,HX1,HNX,HCX,HRX,HSZ3⟩:=bx3 w #[.slice NA n nc0,.slice LA m lc0] (chA 4 C i E j) #[.slice none 0 0,.slice none 0 0] 52 34 52
 have SV:Hid (∀w',Below w.heap.size w w'→Calls Tryz.prog 28 #[.agg #[.slice NA n nc0,.slice LA m lc0]] w' fun e w''=>e= .returned (.bool true)∧Below w'.heap.size w' w''):=fun w' hb=>by
  have h:=zD2 NA LA n nc0 m lc0 D K hzz.sz w' (zB3 HD.out hb) (zB1 HK.out hb)
  rw [zA2 hv.to] at h
  exact h
 have SNm:Hid (∀w',Below w.heap.size w w'→Calls Tryz.prog 55 #[.agg (chA 4 C i E j)] w' fun e w''=>e= .returned (.string (E.Nm j))∧Below w'.heap.size w' w''):=fun w' _=>by
  have h:=zW8 4 i j C E w'
  simpa using h
 have SOf:Hid (∀w',Below w.heap.size w w'→Calls Tryz.prog 54 #[.agg (chA 4 C i E j)] w' fun e w''=>e= .returned (.bool false)∧Below w'.heap.size w' w''):=fun w' _=>by
  have h:=zG5 4 i j C E w'
  simpa using h
 have SCp:Hid (∀w',Below w.heap.size w w'→Calls Tryz.prog 35 #[.agg #[.slice NA n nc0,.slice LA m lc0]] w' fun e w''=>∃u,e= .returned u∧CpPost (recN D n) (recL K m) w' u w''):=fun w' hb=>zO3 NA LA n nc0 m lc0 D K w' hzz.n2 hzz.m2 hzz.sn hzz.cn (zB3 HD.out hb) (zB1 HK.out hb)
 rcases zC4 K.Nm m (E.Nm j) with ⟨hfe,_⟩|⟨at',hat,hfe,_,_⟩
 ·have HFE:=LH hfe
  have SLk:Hid (∀w',Below w.heap.size w w'→Calls Tryz.prog 72 #[.agg #[.slice NA n nc0,.slice LA m lc0],.string (E.Nm j)] w' fun e w''=>e= .returned (.int .i64 (-1))∧Below w'.heap.size w' w''):=fun w' hb=>by rw [←hfe];exact zL4 NA LA n nc0 m lc0 K (E.Nm j) w' hzz.m2 (zB1 HK.out hb)
  clear hv hx hl hD hK hTx hTl hc0 hzz hfe
  go_enter Tryz.func32,Tryz.ntmps32
  go_upto_region 1 with fail
  rw [hW3.out]
  clear hW3
  have HB4:=HX1
  have HSZ4:Hid (w.heap.size+3≤w4.heap.size):=by show _≤_;rw [HSZ3.out];exact nl _
  clear HX1 HSZ3
  obtain ⟨d0,d1⟩:=blk2 HNX.out
  obtain ⟨r0,r1⟩:=blk2 HRX.out
  have g0:=HRX.out.frozen 0
  have g1:=HRX.out.frozen 1
  have e0:=cA0 HCX.out
  go_upto_region 14 with (first
   |(refine wpList_load_row rfl 34 (.tmp 3) rfl _ rfl _ _ (0,0) _ HCX.out Tryz.underlying34 rfl (by kernel_rfl) ?_)
   |(go_at_call 28
     with_reducible refine (SV.out _ HB4.out).mono ?_
     rintro e w4 ⟨rfl,hb4⟩
     clear d0 d1 r0 r1 g0 g1 e0
     obtain ⟨HNX,HCX,HRX,HB4,HSZ4,d0,d1,r0,r1,g0,g1,e0⟩:=bxA HNX HCX HRX HB4 HSZ4 hb4
     clear hb4)
   |(go_at_call 55
     with_reducible refine (SNm.out _ HB4.out).mono ?_
     rintro e w4 ⟨rfl,hb4⟩
     clear d0 d1 r0 r1 g0 g1 e0
     obtain ⟨HNX,HCX,HRX,HB4,HSZ4,d0,d1,r0,r1,g0,g1,e0⟩:=bxA HNX HCX HRX HB4 HSZ4 hb4
     clear hb4)
   |(go_at_call 72
     with_reducible refine (SLk.out _ HB4.out).mono ?_
     rintro e w4 ⟨rfl,hb4⟩
     clear d0 d1 r0 r1 g0 g1 e0
     obtain ⟨HNX,HCX,HRX,HB4,HSZ4,d0,d1,r0,r1,g0,g1,e0⟩:=bxA HNX HCX HRX HB4 HSZ4 hb4
     clear hb4)
   |(go_at_call 54
     with_reducible refine (SOf.out _ HB4.out).mono ?_
     rintro e w4 ⟨rfl,hb4⟩
     clear d0 d1 r0 r1 g0 g1 e0
     obtain ⟨HNX,HCX,HRX,HB4,HSZ4,d0,d1,r0,r1,g0,g1,e0⟩:=bxA HNX HCX HRX HB4 HSZ4 hb4
     clear hb4))
  have HN4:=HNX
  have h0:=HNX.out.frozen 0
  have h1:=HNX.out.frozen 1
  go_upto_region 15 with (first
   |(go_at_call 35
     with_reducible refine (SCp.out _ HB4.out).mono ?_
     rintro e w5 ⟨u,rfl,NM,LM,A1,B1,k1,k2,q1,q2,rfl,hr,hb⟩
     rw [zA3] at hr
     rw [zA4] at hr
     rw [zA3,zA4]
     have hN5:=HNX.out.call hb
     obtain ⟨d0,d1⟩:=blk2 hN5
     have h0:=hN5.frozen 0
     have h1:=hN5.frozen 1
     have HCR5:=LH hr
     have HQ1:=LH q1
     have HQ2:=LH q2
     have HB5:=LH hb
     clear hr q1 q2 hb))
  have HNX6:=LH (((HNX.out.call HB5.out).set_ 0 (.slice A1 n k1)).set_ 1 (.slice B1 m k2))
  have HCX6:=LH (((HCX.out.call HB5.out).far (p:=⟨w.heap.size,0,none⟩) (by show w.heap.size+1≠w.heap.size;omega) (.slice A1 n k1)).far (p:=⟨w.heap.size,1,none⟩) (by show w.heap.size+1≠w.heap.size;omega) (.slice B1 m k2))
  have HRX6:=LH (((HRX.out.call HB5.out).far (p:=⟨w.heap.size,0,none⟩) (by show w.heap.size+2≠w.heap.size;omega) (.slice A1 n k1)).far (p:=⟨w.heap.size,1,none⟩) (by show w.heap.size+2≠w.heap.size;omega) (.slice B1 m k2))
  have HB6:=LH (((zA1 HB4.out HB5.out).setCell (p:=⟨w.heap.size,0,none⟩) (nl _) (.slice A1 n k1)).setCell (p:=⟨w.heap.size,1,none⟩) (nl _) (.slice B1 m k2))
  have HCR:Hid (CpR (w.heap.size+3) NM LM (.slice A1 n k1) (.slice B1 m k2) ((w5.setCell ⟨w.heap.size,0,none⟩ (.slice A1 n k1)).setCell ⟨w.heap.size,1,none⟩ (.slice B1 m k2))):=((HCR5.out.low (by have:=HSZ4.out;omega) 0 (.slice A1 n k1)).low (by have:=HSZ4.out;omega) 1 (.slice B1 m k2)).lower HSZ4.out
  have HSZ6:Hid (w.heap.size+3≤((w5.setCell ⟨w.heap.size,0,none⟩ (.slice A1 n k1)).setCell ⟨w.heap.size,1,none⟩ (.slice B1 m k2)).heap.size):=by show _≤_;simp;exact nT HSZ4.out HB5.out.size
  have HLN:Hid (NM.length=n∧LM.length=m):=⟨zQ2 HQ1.out,zQ3 HQ2.out⟩
  clear d0 d1 h0 h1 hN5 r0 r1 g0 g1 e0 HNX HCX HRX HB4 HB5 HCR5 HN4
  have HNX:=HNX6
  have HCX:=HCX6
  have HRX:=HRX6
  have HB4:=HB6
  clear HNX6 HCX6 HRX6 HB6
  generalize (w5.setCell ⟨w.heap.size,0,none⟩ (.slice A1 n k1)).setCell ⟨w.heap.size,1,none⟩ (.slice B1 m k2)=w6 at HNX HCX HRX HB4 HCR HSZ6⊢
  obtain ⟨d0,d1⟩:=blk2 HNX.out
  have e0:=cA0 HCX.out
  have h0:=HNX.out.frozen 0
  have h1:=HNX.out.frozen 1
  go_upto_block 0 with fail
  obtain ⟨i0,hi0,hz0,hz1,hz2⟩:=zB2 zS7
  have HI0:=LH hi0
  have HZ0:=LH hz0
  have HZ1:=LH hz1
  have HZ2:=LH hz2
  clear hi0 hz0 hz1 hz2
  obtain ⟨e0x,e1x,e2x,e3x,e4x,e5x,e6x,e7x,e8x,e9x,e10x⟩:=chgL HCX.out
  have HN2:Hid (m≤2000):=by show _≤_;have:=HLEN.out;omega
  have HOW:Hid (w6.ownsRow (w.heap.size+3) 32 11 (.slice B1 m k2) m (lc LM)):=by have h:=HCR.out.ol;rw [HLN.out.2] at h;exact h
  go_cut [] from 50 to 139 (fun wx=>∃(A9 B9:Option Addr) (c9 d9:Nat) (D9:Nds) (K9:Lks),Hid (NdIn wx A9 (n) D9)∧Hid (LkIn wx B9 (m+1) K9)∧Hid (recN D9 (n)=opN (recN D n) (chrR 4 C i E j))∧Hid (recL K9 (m+1)=opL (recL K m) (chrR 4 C i E j))∧Hid (Blk wx w.heap.size 52 #[.slice A9 (n) c9,.slice B9 (m+1) d9])∧Hid (Blk wx (w.heap.size+2) 52 #[.slice none 0 0,.slice none 0 0])∧Hid (Below w.heap.size w wx))
  case first=>
   go_upto_region 28 with fail
   go_wp2_with (first
        |(at_builtin;refine wpList_append_own_at _ ?q1_1 (.tmp 111) (.tmp 114) 50 ?q1_2 (w.heap.size+3) 32 i0 (.agg #[.string ⟨#[]⟩,.string ⟨#[]⟩,.string ⟨#[]⟩,.int .i64 0,.int .i64 0,.int .i64 0,.int .i64 0,.string ⟨#[]⟩,.int .i64 0,.int .i64 0,.slice none 0 0]) 11 136 Tryz.underlying50 HI0.out HZ0.out HZ1.out HZ2.out ?q1_3 ?q1_4 (.slice B1 m k2) m (lc LM) ?q1_5 (HOW.out.alloc _) ⟨w6.heap.size,0,none⟩ 1 1 [.string (E.Nm j),.string (E.Fr j),.string (E.To j),.int .i64 (E.Kd j),.int .i64 (E.Ln j),.int .i64 (E.Up j),.int .i64 (E.Dn j),.string (E.Sc j),.int .i64 (E.Wd j),.int .i64 (E.Ht j),.slice (E.CA j) (E.CN j) (E.CC j)] ?q1_7 rfl (World.news_of_block (cs:=(cLk E j)) (t:=32) (fr:=(0,0)) (heap_alloc_new _ _)) (by simp [Value.oneCell']) (zN8 HN2.out) (hby_lk HN2.out) (zC6 HSZ6.out _) ?q1_14
          case q1_1=>exact rfl
          case q1_2=>exact rfl
          case q1_3=>exact rfl
          case q1_4=>decide
          case q1_5=>exact rfl
          case q1_7=>exact rfl
          intro u2 w7 hown2 hgrow2 hnil2 hat2
          obtain ⟨g2,cap2,rfl,hb2,hl2⟩:=hown2.form (by omega)
          have HO7:=LH hown2
          have HG7:=LH hgrow2
          have HCRB:=LH (HCR.out.call (Below.alloc (bR _ w6) (nl _) (Obj.cells (cLk E j) 32)))
          have hrw:∀g,(Value.slice B1 m k2).ownBlock=some g→w.heap.size+3≤g:=fun g e=>(HOW.out.lt g e).1
          have HB7:=LH (zA9 (HB4.out.alloc HB4.out.size _) (zC6 HB4.out.size _) hgrow2 (fun g e=>by have:=hrw g e;omega))
          have HN7:=LH ((HNX.out.alloc _).grown hgrow2 (fun e=>by have:=hrw _ e.symm;omega))
          have HR7:=LH ((HRX.out.alloc _).grown hgrow2 (fun e=>by have:=hrw _ e.symm;omega))
          clear d0 d1 h0 h1
          obtain ⟨d0,d1⟩:=blk2 HN7.out
          have h0:=HN7.out.frozen 0
          have h1:=HN7.out.frozen 1
          clear hown2 hgrow2 hnil2 hat2 hb2 hl2 hrw))
   have HAFT:=LH (HCRB.out.aft (g0:=w.heap.size) (i:=1) (x:=(.slice (some ⟨g2,0,none⟩) (m+1) cap2)) HG7.out (.inr rfl) (by omega))
   have HO9:=LH (zA6 (i:=1) (x:=(.slice (some ⟨g2,0,none⟩) (m+1) cap2)) HO7.out (show w.heap.size<w.heap.size+3 by omega))
   have HB9:=LH (HB7.out.setCell (p:=⟨w.heap.size,1,none⟩) (nl _) ((.slice (some ⟨g2,0,none⟩) (m+1) cap2)))
   have HN9:=LH (HN7.out.set_ 1 ((.slice (some ⟨g2,0,none⟩) (m+1) cap2)))
   have HR9:=LH (HR7.out.far (p:=⟨w.heap.size,1,none⟩) (by show w.heap.size+2≠w.heap.size;omega) ((.slice (some ⟨g2,0,none⟩) (m+1) cap2)))
   try go_meet
   exact ⟨A1,some ⟨g2,0,none⟩,k1,cap2,ndsM NM,lksM (LM++[(lkC E j (E.CA j) (E.CC j))]),(zX1 HLN.out.1 (by have h:=own_oth (g0:=w.heap.size) (i:=1) (x:=(.slice (some ⟨g2,0,none⟩) (m+1) cap2)) HCRB.out.on HCRB.out.ol (by decide) HG7.out (by omega);rw [HLN.out.1] at h;exact h) HAFT.out.1 (by have:=HLEN.out;omega)),(zX3 (by rw [List.length_append,HLN.out.2];rfl) (by rw [zM1,lc_one,show lcm' (lkC E j (E.CA j) (E.CC j))=[.string (E.Nm j),.string (E.Fr j),.string (E.To j),.int .i64 (E.Kd j),.int .i64 (E.Ln j),.int .i64 (E.Up j),.int .i64 (E.Dn j),.string (E.Sc j),.int .i64 (E.Wd j),.int .i64 (E.Ht j),.slice (E.CA j) (E.CN j) (E.CC j)] from zH1 E j (E.CA j) (E.CC j)];exact HO9.out) (fun p hp=>by rcases List.mem_append.1 hp with hp |hp;exact HAFT.out.2 p hp;rw [List.mem_singleton.1 hp];exact zC2 (HTl.out.below (nl _) HB9.out)) (by have:=HLEN.out;omega)),(by show recN _ _=_;rw [zL8 HLN.out.1,HQ1.out,zW9 (by simp [chrR])]),(by show recL _ _=_;rw [zM0 (by rw [List.length_append,HLN.out.2];rfl),zX2,HQ2.out,opL_4 (by simp [chrR])];rfl),HN9.out,HR9.out,HB9.out⟩
  case rest=>
  obtain ⟨A9,B9,c9,d9,D9,K9,HND,HLK,HE1,HE2,HN9,HR9,HB9⟩:=hcut
  clear HNX HCX HRX HB4 HCR HSZ6 HSZ4
  generalize hq9:m+1=q9 at HLK HE2 HN9
  have HQ9:=LH hq9
  clear hq9
  have HZ9:Hid (ZZ (recN D9 (n)) (recL K9 (q9))):=by show ZZ _ _;rw [HE1.out,HE2.out,←HC0.out];exact HZOP.out
  obtain ⟨o0,o1⟩:=blk2 HN9.out
  obtain ⟨r0,r1⟩:=blk2 HR9.out
  have g0:=HR9.out.frozen 0
  have g1:=HR9.out.frozen 1
  have HSZ9:Hid (w.heap.size+2<wc.heap.size):=HR9.out.lt
  by_cases hF:400<q9
  ·have l1:decide ((300:Int)<((n:Nat):Int))=false:=dF (by have:=HLEN.out;have:=HQ9.out;omega)
   have l2:decide (300<n)=false:=dF (by have:=HLEN.out;have:=HQ9.out;omega)
   have l3:decide (((n:Nat):Int) > 300)=false:=dF (by have:=HLEN.out;have:=HQ9.out;omega)
   have l4:decide ((400:Int)<((q9:Nat):Int))=true:=dU (by omega)
   have l5:decide (400<q9)=true:=dU (by omega)
   have l6:decide (((q9:Nat):Int) > 400)=true:=dU (by omega)
   have HRS:=LH ((HR9.out.set_ 0 (.slice none 0 0)).set_ 1 (.slice none 0 0))
   obtain ⟨z0,z1⟩:=blk2 HRS.out
   have HBE:Hid (Below w.heap.size w ((wc.setCell ⟨w.heap.size+2,0,none⟩ (.slice none 0 0)).setCell ⟨w.heap.size+2,1,none⟩ (.slice none 0 0))):=(HB9.out.setCell (p:=⟨w.heap.size+2,0,none⟩) (by show w.heap.size≤w.heap.size+2;omega) _).setCell (p:=⟨w.heap.size+2,1,none⟩) (by show w.heap.size≤w.heap.size+2;omega) _
   have HWHY:Hid (apE (recN D n) (recL K m) (chrR 4 C i E j)=4):=apE_4 (.inr ⟨rfl,zI8 HFE.out,by rw [zA4];have:=HQ9.out;omega⟩)
   clear hF
   go_wp2_with fail
   refine bodyPost_ret (v:=.tuple #[.agg #[.slice none 0 0,.slice none 0 0],.int .i64 4]) (by simp [results,Tryz.results32,go_sem,z0,z1]) rfl ?_
   exact zF0 (by decide) HWHY.out rfl HBE.out
  have HF:=LH hF
  clear hF
  have HAP:Hid (ApP (recN D n) (recL K m) (chrR 4 C i E j)):=⟨⟨by simp [chrR],by simp [chrR]⟩,fun q=>absurd q (by simp [chrR]),fun q=>absurd q (by simp [chrR]),fun _=>zI8 HFE.out,fun q=>absurd q (by simp [chrR]),fun q=>absurd q (by simp [chrR]),fun q=>absurd q (by simp [chrR]),fun _=>by rw [zA4];have:=HF.out;have:=HQ9.out;omega⟩
  have HND2:Hid (n≤300∧q9≤400):=by show _∧_;have:=HLEN.out;have:=HF.out;have:=HQ9.out;omega
  have l1:decide ((300:Int)<((n:Nat):Int))=false:=dF (by have:=HND2.out;omega)
  have l2:decide (300<n)=false:=dF (by have:=HND2.out;omega)
  have l3:decide (((n:Nat):Int) > 300)=false:=dF (by have:=HND2.out;omega)
  have l4:decide ((400:Int)<((q9:Nat):Int))=false:=dF (by have:=HND2.out;omega)
  have l5:decide (400<q9)=false:=dF (by have:=HND2.out;omega)
  have l6:decide (((q9:Nat):Int) > 400)=false:=dF (by have:=HND2.out;omega)
  by_cases hV:netP D9 (n) K9 (q9)
  ·have SV2:Hid (Calls Tryz.prog 28 #[.agg #[.slice A9 (n) c9,.slice B9 (q9) d9]] wc fun e w''=>e= .returned (.bool true)∧Below wc.heap.size wc w''):=by
        have h:=zD2 A9 B9 (n) c9 (q9) d9 D9 K9 HZ9.out.sz wc HND.out HLK.out
        rw [zA2 hV] at h
        exact h
   have HV:=LH hV
   clear hV
   go_upto_region 37 with (first
        |(go_at_call 28
          with_reducible refine SV2.out.mono ?_
          rintro e w10 ⟨rfl,hb10⟩
          have HB10:=LH (zA1 HB9.out hb10)
          have HND10:=LH (HND.out.below (nl _) hb10)
          have HLK10:=LH (HLK.out.below (nl _) hb10)
          have HN10:=LH (HN9.out.call hb10)
          have HR10:=LH (HR9.out.call hb10)
          have HSZ10:Hid (w.heap.size+2<w10.heap.size):=Nat.lt_of_lt_of_le HSZ9.out hb10.size
          clear hb10))
   clear o0 o1 r0 r1 g0 g1
   obtain ⟨o0,o1⟩:=blk2 HN10.out
   have SC:Hid (Calls Tryz.prog 35 #[.agg #[.slice A9 (n) c9,.slice B9 (q9) d9]] w10 fun e w''=>∃u,e= .returned u∧CpPost (recN D9 (n)) (recL K9 (q9)) w10 u w''):=zO3 A9 B9 (n) c9 (q9) d9 D9 K9 w10 HZ9.out.n2 HZ9.out.m2 HZ9.out.sn HZ9.out.cn HND10.out HLK10.out
   go_wp2_with (first
        |(go_at_call 35
          with_reducible refine SC.out.mono ?_
          rintro e w11 ⟨u,rfl,NM1,LM1,A2,B2,k3,k4,q1,q2,rfl,hr1,hb1⟩
          rw [zA3] at hr1
          rw [zA4] at hr1
          rw [zA3,zA4]
          have HCR1:=LH hr1
          have HP1:=LH q1
          have HP2:=LH q2
          have HB11:=LH (zA1 HB10.out hb1)
          have HR11:=HR10.out.call hb1
          obtain ⟨r0,r1⟩:=blk2 HR11
          have g0:=HR11.frozen 0
          have g1:=HR11.frozen 1
          have HRS:=LH ((HR11.set_ 0 (.slice A2 (n) k3)).set_ 1 (.slice B2 (q9) k4))
          obtain ⟨z0,z1⟩:=blk2 HRS.out
          clear hr1 q1 q2 hb1 HR11))
   have HFN:=zE9 HCR1.out HB11.out (g:=w.heap.size+2) (by omega) HSZ10.out
   rw [HP1.out,HP2.out] at HFN
   have HFN:=LH HFN
   refine bodyPost_ret (v:=.tuple #[.agg #[.slice A2 (n) k3,.slice B2 (q9) k4],.int .i64 0]) (by simp [results,Tryz.results32,go_sem,z0,z1]) rfl ?_
   exact zH5 HAP.out HE1.out HE2.out HV.out rfl HFN.out
  ·have SV2:Hid (Calls Tryz.prog 28 #[.agg #[.slice A9 (n) c9,.slice B9 (q9) d9]] wc fun e w''=>e= .returned (.bool false)∧Below wc.heap.size wc w''):=by
        have h:=zD2 A9 B9 (n) c9 (q9) d9 D9 K9 HZ9.out.sz wc HND.out HLK.out
        rw [zA0 hV] at h
        exact h
   have HV:=LH hV
   clear hV
   go_upto_region 36 with (first
        |(go_at_call 28
          with_reducible refine SV2.out.mono ?_
          rintro e w10 ⟨rfl,hb10⟩
          have HB10:=LH (zA1 HB9.out hb10)
          have HR10:=HR9.out.call hb10
          clear r0 r1 g0 g1
          obtain ⟨r0,r1⟩:=blk2 HR10
          have g0:=HR10.frozen 0
          have g1:=HR10.frozen 1
          have HRS:=LH ((HR10.set_ 0 (.slice none 0 0)).set_ 1 (.slice none 0 0))
          obtain ⟨z0,z1⟩:=blk2 HRS.out
          clear hb10 HR10))
   go_wp2_with fail
   refine bodyPost_ret (v:=.tuple #[.agg #[.slice none 0 0,.slice none 0 0],.int .i64 25]) (by simp [results,Tryz.results32,go_sem,z0,z1]) rfl ?_
   exact zK8 HAP.out HE1.out HE2.out HV.out rfl ((HB10.out.setCell (p:=⟨w.heap.size+2,0,none⟩) (by show w.heap.size≤w.heap.size+2;omega) _).setCell (p:=⟨w.heap.size+2,1,none⟩) (by show w.heap.size≤w.heap.size+2;omega) _)
 ·have HFE:=LH hfe
  have t1:decide ((0:Int)≤(at':Int))=true:=dU (by omega)
  have t2:decide ((at':Int)<0)=false:=dF (by omega)
  have t3:decide ((at':Int) ≥ 0)=true:=dU (by omega)
  have SLk:Hid (∀w',Below w.heap.size w w'→Calls Tryz.prog 72 #[.agg #[.slice NA n nc0,.slice LA m lc0],.string (E.Nm j)] w' fun e w''=>e= .returned (.int .i64 ((at':Int)))∧Below w'.heap.size w' w''):=fun w' hb=>by rw [←hfe];exact zL4 NA LA n nc0 m lc0 K (E.Nm j) w' hzz.m2 (zB1 HK.out hb)
  clear hat hv hx hl hD hK hTx hTl hc0 hzz hfe
  go_enter Tryz.func32,Tryz.ntmps32
  go_upto_region 1 with fail
  rw [hW3.out]
  clear hW3
  have HB4:=HX1
  have HSZ4:Hid (w.heap.size+3≤w4.heap.size):=by show _≤_;rw [HSZ3.out];exact nl _
  clear HX1 HSZ3
  obtain ⟨d0,d1⟩:=blk2 HNX.out
  obtain ⟨r0,r1⟩:=blk2 HRX.out
  have g0:=HRX.out.frozen 0
  have g1:=HRX.out.frozen 1
  have e0:=cA0 HCX.out
  go_upto_region 10 with (first
   |(refine wpList_load_row rfl 34 (.tmp 3) rfl _ rfl _ _ (0,0) _ HCX.out Tryz.underlying34 rfl (by kernel_rfl) ?_)
   |(go_at_call 28
     with_reducible refine (SV.out _ HB4.out).mono ?_
     rintro e w4 ⟨rfl,hb4⟩
     clear d0 d1 r0 r1 g0 g1 e0
     obtain ⟨HNX,HCX,HRX,HB4,HSZ4,d0,d1,r0,r1,g0,g1,e0⟩:=bxA HNX HCX HRX HB4 HSZ4 hb4
     clear hb4)
   |(go_at_call 55
     with_reducible refine (SNm.out _ HB4.out).mono ?_
     rintro e w4 ⟨rfl,hb4⟩
     clear d0 d1 r0 r1 g0 g1 e0
     obtain ⟨HNX,HCX,HRX,HB4,HSZ4,d0,d1,r0,r1,g0,g1,e0⟩:=bxA HNX HCX HRX HB4 HSZ4 hb4
     clear hb4)
   |(go_at_call 72
     with_reducible refine (SLk.out _ HB4.out).mono ?_
     rintro e w4 ⟨rfl,hb4⟩
     clear d0 d1 r0 r1 g0 g1 e0
     obtain ⟨HNX,HCX,HRX,HB4,HSZ4,d0,d1,r0,r1,g0,g1,e0⟩:=bxA HNX HCX HRX HB4 HSZ4 hb4
     clear hb4)
   |(go_at_call 54
     with_reducible refine (SOf.out _ HB4.out).mono ?_
     rintro e w4 ⟨rfl,hb4⟩
     clear d0 d1 r0 r1 g0 g1 e0
     obtain ⟨HNX,HCX,HRX,HB4,HSZ4,d0,d1,r0,r1,g0,g1,e0⟩:=bxA HNX HCX HRX HB4 HSZ4 hb4
     clear hb4))
  have HRS:=LH ((HRX.out.set_ 0 (.slice none 0 0)).set_ 1 (.slice none 0 0))
  obtain ⟨z0,z1⟩:=blk2 HRS.out
  have HBE:Hid (Below w.heap.size w ((w4.setCell ⟨w.heap.size+2,0,none⟩ (.slice none 0 0)).setCell ⟨w.heap.size+2,1,none⟩ (.slice none 0 0))):=(HB4.out.setCell (p:=⟨w.heap.size+2,0,none⟩) (by show w.heap.size≤w.heap.size+2;omega) _).setCell (p:=⟨w.heap.size+2,1,none⟩) (by show w.heap.size≤w.heap.size+2;omega) _
  have HWHY:Hid (apE (recN D n) (recL K m) (chrR 4 C i E j)=15):=apE_15 (.inr ⟨rfl,zN0 HFE.out⟩)
  go_wp2_with fail
  refine bodyPost_ret (v:=.tuple #[.agg #[.slice none 0 0,.slice none 0 0],.int .i64 15]) (by simp [results,Tryz.results32,go_sem,z0,z1]) rfl ?_
  exact zF0 (by decide) HWHY.out rfl HBE.out
end Go.Proofs.YtchakniaoeodmaaGreatDoor

/- Merged texts of these proofs: SrQ, SrV, SrW. -/
import Derived.Test.YtchakniaoeodmaaGreatDoorZMgSa
import Derived.Test.YtchakniaoeodmaaGreatDoorZMgSb
import Derived.Test.YtchakniaoeodmaaGreatDoorZMgSc
import Derived.Test.YtchakniaoeodmaaGreatDoorZScW
namespace Go.Proofs.YtchakniaoeodmaaGreatDoor
open Go.RowKit
set_option linter.unusedVariables false
set_option linter.unusedSimpArgs false
theorem zW0 {N:List Ndr} {L:List Lkr} {c:Chr} {w w':World} {e:Ending} (hv:VS N L) (h:ApPost N L c w e w'):AplPost N L c w e w':=by
 obtain ⟨u,he,hp⟩:=h
 obtain ⟨a1,a2,a3⟩:=apl_ap (c:=c) hv
 exact ⟨u,by rw [a1];exact he,by rw [a2,a3];exact hp⟩
set_option maxRecDepth 100000 in
set_option maxHeartbeats 16000000 in
theorem r_apply0 (NA LA:Option Addr) (n nc0 m lc0 i j:Nat) (kd:Int) (D C:Nds) (K E:Lks) (w:World) (hv:VS (recN D n) (recL K m)) (hx:ZN (zA7 C i)) (hl:ZL (zA6 E j)) (hD:NdIn w NA n D) (hK:LkIn w LA m K) (hTx:TabIn w (C.SA i) (C.SN i) (C.SX i) (C.SY i)) (hTl:TabIn w (E.CA j) (E.CN j) (E.CX j) (E.CY j)) (hk:¬(1≤kd∧kd≤6)):
 Calls Tryz.prog 32 #[.agg #[.slice NA n nc0,.slice LA m lc0],.agg (chA kd C i E j)] w (ApPost (recN D n) (recL K m) (chrR kd C i E j) w):=by
 have hzz:=hv.zz
 have HAL:Hid (Below w.heap.size w (((w.alloc (Obj.cells #[.slice NA n nc0,.slice LA m lc0] 52)).alloc (Obj.cells (chA kd C i E j) 34)).alloc (Obj.cells #[.slice none 0 0,.slice none 0 0] 52))):=(((bR _ w).alloc (nl _) _).alloc (by simp) _).alloc (by simp<;> omega) _
 have HNX:Hid (Blk (((w.alloc (Obj.cells #[.slice NA n nc0,.slice LA m lc0] 52)).alloc (Obj.cells (chA kd C i E j) 34)).alloc (Obj.cells #[.slice none 0 0,.slice none 0 0] 52)) w.heap.size 52 #[.slice NA n nc0,.slice LA m lc0]):=((Blk.new _ _ _).alloc _).alloc _
 have HCX:Hid (Blk (((w.alloc (Obj.cells #[.slice NA n nc0,.slice LA m lc0] 52)).alloc (Obj.cells (chA kd C i E j) 34)).alloc (Obj.cells #[.slice none 0 0,.slice none 0 0] 52)) (w.heap.size+1) 34 (chA kd C i E j)):=by have h:=(Blk.new (w.alloc (Obj.cells #[.slice NA n nc0,.slice LA m lc0] 52)) 34 (chA kd C i E j)).alloc (Obj.cells #[.slice none 0 0,.slice none 0 0] 52);rw [zB2] at h;exact h
 have HRX:Hid (Blk (((w.alloc (Obj.cells #[.slice NA n nc0,.slice LA m lc0] 52)).alloc (Obj.cells (chA kd C i E j) 34)).alloc (Obj.cells #[.slice none 0 0,.slice none 0 0] 52)) (w.heap.size+2) 52 #[.slice none 0 0,.slice none 0 0]):=by have h:=Blk.new ((w.alloc (Obj.cells #[.slice NA n nc0,.slice LA m lc0] 52)).alloc (Obj.cells (chA kd C i E j) 34)) 52 #[.slice none 0 0,.slice none 0 0];rw [zB2,zB2] at h;exact h
 have HSZ3:Hid ((((w.alloc (Obj.cells #[.slice NA n nc0,.slice LA m lc0] 52)).alloc (Obj.cells (chA kd C i E j) 34)).alloc (Obj.cells #[.slice none 0 0,.slice none 0 0] 52)).heap.size=w.heap.size+3):=by show _=_;simp
 have HWHY:Hid (apE (recN D n) (recL K m) (chrR kd C i E j)=11):=apE_k hk
 have SV:Hid (∀w',Below w.heap.size w w'→Calls Tryz.prog 28 #[.agg #[.slice NA n nc0,.slice LA m lc0]] w' fun e w''=>e= .returned (.bool true)∧Below w'.heap.size w' w''):=fun w' hb=>by
  have h:=zE2 NA LA n nc0 m lc0 D K hzz.sz w' (zB1 hD hb) (zA9 hK hb)
  rw [zA2 hv.to] at h
  exact h
 obtain ⟨t,ht⟩:∃t,t=decide (kd<1):=⟨_,rfl⟩
 have t2:t=false→decide (kd > 6)=true:=fun q=>dU (by rw [q] at ht;have:=of_decide_eq_false ht.symm;omega)
 have t3:t=false→decide (6<kd)=true:=fun q=>dU (by rw [q] at ht;have:=of_decide_eq_false ht.symm;omega)
 have HT:=LH (And.intro ht (And.intro t2 t3))
 clear hv hx hl hD hK hTx hTl hzz hk t2 t3 ht
 cases t
 all_goals
  have t1:=HT.out.1.symm
  have t2:=HT.out.2.1
  have t3:=HT.out.2.2
  simp only [forall_const,reduceCtorEq,false_implies] at t2 t3
  clear HT
  go_enter Tryz.func32,Tryz.ntmps32
  go_upto_region 1 with fail
  generalize ((w.alloc (Obj.cells #[.slice NA n nc0,.slice LA m lc0] 52)).alloc (Obj.cells (chA kd C i E j) 34)).alloc (Obj.cells #[.slice none 0 0,.slice none 0 0] 52)=W3 at HAL HNX HCX HRX HSZ3⊢
  obtain ⟨d0,d1⟩:=blk2 HNX.out
  go_upto_region 4 with (first
   |(go_at_call 28
     with_reducible refine (SV.out _ HAL.out).mono ?_
     rintro e w4 ⟨rfl,hb4⟩
     have HRX4:=LH (HRX.out.call hb4)
     have HB4:=LH (zA1 HAL.out hb4)
     have e0:=(HCX.out.call hb4).cell 0
     simp only [chA,List.getElem?_toArray,List.getElem?_cons_zero,List.getElem?_cons_succ] at e0
     clear hb4))
  obtain ⟨r0,r1⟩:=blk2 HRX4.out
  have g0:=HRX4.out.frozen 0
  have g1:=HRX4.out.frozen 1
  have HRS:=LH ((HRX4.out.set_ 0 (.slice none 0 0)).set_ 1 (.slice none 0 0))
  obtain ⟨z0,z1⟩:=blk2 HRS.out
  have HBE:Hid (Below w.heap.size w ((w4.setCell ⟨w.heap.size+2,0,none⟩ (.slice none 0 0)).setCell ⟨w.heap.size+2,1,none⟩ (.slice none 0 0))):=(HB4.out.setCell (p:=⟨w.heap.size+2,0,none⟩) (by show w.heap.size≤w.heap.size+2;omega) _).setCell (p:=⟨w.heap.size+2,1,none⟩) (by show w.heap.size≤w.heap.size+2;omega) _
  clear d0 d1
  go_wp2_with fail
  refine bodyPost_ret (v:=.tuple #[.agg #[.slice none 0 0,.slice none 0 0],.int .i64 11]) (by simp [results,Tryz.results32,go_sem,z0,z1]) rfl ?_
  exact zF4 (by decide) HWHY.out rfl HBE.out
set_option maxRecDepth 100000 in
set_option maxHeartbeats 16000000 in
theorem r_applyV (NA LA:Option Addr) (n nc0 m lc0 i j:Nat) (kd:Int) (D C:Nds) (K E:Lks) (w:World) (hz:ZZ (recN D n) (recL K m)) (hx:ZN (zA7 C i)) (hl:ZL (zA6 E j)) (hD:NdIn w NA n D) (hK:LkIn w LA m K) (hTx:TabIn w (C.SA i) (C.SN i) (C.SX i) (C.SY i)) (hTl:TabIn w (E.CA j) (E.CN j) (E.CX j) (E.CY j)) (hV:¬VS (recN D n) (recL K m)):
 Calls Tryz.prog 32 #[.agg #[.slice NA n nc0,.slice LA m lc0],.agg (chA kd C i E j)] w (AplPost (recN D n) (recL K m) (chrR kd C i E j) w):=by
 have HAL:Hid (Below w.heap.size w (((w.alloc (Obj.cells #[.slice NA n nc0,.slice LA m lc0] 52)).alloc (Obj.cells (chA kd C i E j) 34)).alloc (Obj.cells #[.slice none 0 0,.slice none 0 0] 52))):=(((bR _ w).alloc (nl _) _).alloc (by simp) _).alloc (by simp<;> omega) _
 have HNX:Hid (Blk (((w.alloc (Obj.cells #[.slice NA n nc0,.slice LA m lc0] 52)).alloc (Obj.cells (chA kd C i E j) 34)).alloc (Obj.cells #[.slice none 0 0,.slice none 0 0] 52)) w.heap.size 52 #[.slice NA n nc0,.slice LA m lc0]):=((Blk.new _ _ _).alloc _).alloc _
 have HCX:Hid (Blk (((w.alloc (Obj.cells #[.slice NA n nc0,.slice LA m lc0] 52)).alloc (Obj.cells (chA kd C i E j) 34)).alloc (Obj.cells #[.slice none 0 0,.slice none 0 0] 52)) (w.heap.size+1) 34 (chA kd C i E j)):=by have h:=(Blk.new (w.alloc (Obj.cells #[.slice NA n nc0,.slice LA m lc0] 52)) 34 (chA kd C i E j)).alloc (Obj.cells #[.slice none 0 0,.slice none 0 0] 52);rw [zB2] at h;exact h
 have HRX:Hid (Blk (((w.alloc (Obj.cells #[.slice NA n nc0,.slice LA m lc0] 52)).alloc (Obj.cells (chA kd C i E j) 34)).alloc (Obj.cells #[.slice none 0 0,.slice none 0 0] 52)) (w.heap.size+2) 52 #[.slice none 0 0,.slice none 0 0]):=by have h:=Blk.new ((w.alloc (Obj.cells #[.slice NA n nc0,.slice LA m lc0] 52)).alloc (Obj.cells (chA kd C i E j) 34)) 52 #[.slice none 0 0,.slice none 0 0];rw [zB2,zB2] at h;exact h
 have HSZ3:Hid ((((w.alloc (Obj.cells #[.slice NA n nc0,.slice LA m lc0] 52)).alloc (Obj.cells (chA kd C i E j) 34)).alloc (Obj.cells #[.slice none 0 0,.slice none 0 0] 52)).heap.size=w.heap.size+3):=by show _=_;simp
 have SV:Hid (∀w',Below w.heap.size w w'→Calls Tryz.prog 28 #[.agg #[.slice NA n nc0,.slice LA m lc0]] w' fun e w''=>e= .returned (.bool false)∧Below w'.heap.size w' w''):=fun w' hb=>by
  have h:=zE2 NA LA n nc0 m lc0 D K hz.sz w' (zB1 hD hb) (zA9 hK hb)
  rw [zA0 (fun q=>hV (VS.of q))] at h
  exact h
 have HV:=LH hV
 clear hz hx hl hD hK hTx hTl hV
 go_enter Tryz.func32,Tryz.ntmps32
 go_upto_region 1 with fail
 generalize ((w.alloc (Obj.cells #[.slice NA n nc0,.slice LA m lc0] 52)).alloc (Obj.cells (chA kd C i E j) 34)).alloc (Obj.cells #[.slice none 0 0,.slice none 0 0] 52)=W3 at HAL HNX HCX HRX HSZ3⊢
 obtain ⟨d0,d1⟩:=blk2 HNX.out
 go_wp2_with (first
  |(go_at_call 28
    with_reducible refine (SV.out _ HAL.out).mono ?_
    rintro e w4 ⟨rfl,hb4⟩
    have HR4:=HRX.out.call hb4
    have HB4:=LH (zA1 HAL.out hb4)
    obtain ⟨r0,r1⟩:=blk2 HR4
    have g0:=HR4.frozen 0
    have g1:=HR4.frozen 1
    have HRS:=LH ((HR4.set_ 0 (.slice none 0 0)).set_ 1 (.slice none 0 0))
    obtain ⟨z0,z1⟩:=blk2 HRS.out
    clear hb4 HR4))
 refine bodyPost_ret (v:=.tuple #[.agg #[.slice none 0 0,.slice none 0 0],.int .i64 1]) (by simp [results,Tryz.results32,go_sem,z0,z1]) rfl ?_
 exact apl_bad HV.out rfl ((HB4.out.setCell (p:=⟨w.heap.size+2,0,none⟩) (by show w.heap.size≤w.heap.size+2;omega) _).setCell (p:=⟨w.heap.size+2,1,none⟩) (by show w.heap.size≤w.heap.size+2;omega) _)
theorem zM3 (NA LA:Option Addr) (n nc0 m lc0 i j:Nat) (kd:Int) (D C:Nds) (K E:Lks) (w:World) (hz:ZZ (recN D n) (recL K m)) (hx:ZN (zA7 C i)) (hl:ZL (zA6 E j)) (hD:NdIn w NA n D) (hK:LkIn w LA m K) (hTx:TabIn w (C.SA i) (C.SN i) (C.SX i) (C.SY i)) (hTl:TabIn w (E.CA j) (E.CN j) (E.CX j) (E.CY j)):
 Calls Tryz.prog 32 #[.agg #[.slice NA n nc0,.slice LA m lc0],.agg (chA kd C i E j)] w (AplPost (recN D n) (recL K m) (chrR kd C i E j) w):=by
 by_cases hv:VS (recN D n) (recL K m)
 ·by_cases h0:1≤kd∧kd≤6
  ·have hk:kd=1∨kd=2∨kd=3∨kd=4∨kd=5∨kd=6:=by omega
   rcases hk with rfl |rfl |rfl |rfl |rfl |rfl
   ·exact (r_apply1 NA LA n nc0 m lc0 i j D C K E w hv hx hl hD hK hTx hTl).mono fun e w' h=>zW0 hv h
   ·exact (r_apply2 NA LA n nc0 m lc0 i j D C K E w hv hx hl hD hK hTx hTl).mono fun e w' h=>zW0 hv h
   ·exact (r_apply3 NA LA n nc0 m lc0 i j D C K E w hv hx hl hD hK hTx hTl).mono fun e w' h=>zW0 hv h
   ·exact (r_apply4 NA LA n nc0 m lc0 i j D C K E w hv hx hl hD hK hTx hTl).mono fun e w' h=>zW0 hv h
   ·exact (r_apply5 NA LA n nc0 m lc0 i j D C K E w hv hx hl hD hK hTx hTl).mono fun e w' h=>zW0 hv h
   ·exact (r_apply6 NA LA n nc0 m lc0 i j D C K E w hv hx hl hD hK hTx hTl).mono fun e w' h=>zW0 hv h
  ·exact (r_apply0 NA LA n nc0 m lc0 i j kd D C K E w hv hx hl hD hK hTx hTl h0).mono fun e w' h=>zW0 hv h
 ·exact r_applyV NA LA n nc0 m lc0 i j kd D C K E w hz hx hl hD hK hTx hTl hv
set_option maxRecDepth 100000 in
set_option maxHeartbeats 16000000 in
theorem r_undoE (NA LA:Option Addr) (n nc0 m lc0 i j:Nat) (kd:Int) (D C:Nds) (K E:Lks) (w:World) (hz:ZZ (recN D n) (recL K m)) (hx:ZN (zA7 C i)) (hl:ZL (zA6 E j)) (hD:NdIn w NA n D) (hK:LkIn w LA m K) (hTx:TabIn w (C.SA i) (C.SN i) (C.SX i) (C.SY i)) (hTl:TabIn w (E.CA j) (E.CN j) (E.CX j) (E.CY j)) (he:ApE (recN D n) (recL K m) (chrR kd C i E j)≠0):
 Calls Tryz.prog 34 #[.agg #[.slice NA n nc0,.slice LA m lc0],.agg (chA kd C i E j)] w (UndPost (recN D n) (recL K m) (chrR kd C i E j) w):=by
 obtain ⟨W3,hW3,HB4,HNX,HCX,HRX,HSZ3⟩:=bx3 w #[.slice NA n nc0,.slice LA m lc0] (chA kd C i E j) cZc 52 34 34
 have SA:Hid (∀w',Below w.heap.size w w'→Calls Tryz.prog 32 #[.agg #[.slice NA n nc0,.slice LA m lc0],.agg (chA kd C i E j)] w' (AplPost (recN D n) (recL K m) (chrR kd C i E j) w')):=fun w' hb=>zM3 NA LA n nc0 m lc0 i j kd D C K E w' hz hx hl (zB1 hD hb) (zA9 hK hb) (hTx.below (nl _) hb) (hTl.below (nl _) hb)
 obtain ⟨er,her⟩:∃er,ApE (recN D n) (recL K m) (chrR kd C i E j)=er:=⟨_,rfl⟩
 have HER:=LH her
 rw [her] at he
 have HE0:=LH he
 have t1:(er !=0)=true:=by simpa using he
 clear hz hx hl hD hK hTx hTl he her
 go_enter Tryz.func34,Tryz.ntmps34
 go_upto_region 1 with fail
 rw [hW3.out]
 clear hW3
 have HSZ4:Hid (w.heap.size+3≤W3.heap.size):=by show _≤_;rw [HSZ3.out];exact nl _
 clear HSZ3
 obtain ⟨d0,d1⟩:=blk2 HNX.out
 go_upto_region 2 with (first
 |(refine wpList_load_row rfl 34 (.tmp 3) rfl _ rfl _ _ (0,0) _ HCX.out Tryz.underlying34 rfl (by kernel_rfl) ?_)
 |(go_at_call 32
   with_reducible refine (SA.out _ HB4.out).mono ?_
   rintro e w4 ⟨u,rfl,NM1,LM1,A1,B1,k1,k2,q1,q2,rfl,hr1,hb1⟩
   have HNX:=LH (HNX.out.call hb1)
   have HCX:=LH (HCX.out.call hb1)
   have HRX:=LH (HRX.out.call hb1)
   have HB4:=LH (zA1 HB4.out hb1)
   have HSZ4:Hid (w.heap.size+3≤w4.heap.size):=nT HSZ4.out hb1.size
   clear hr1 q1 q2 hb1 d0 d1
   obtain ⟨d0,d1⟩:=blk2 HNX.out))
 rw [HER.out]
 have HRX5:=LH (HRX.out.alloc (Obj.cells #[.slice A1 (ApN (recN D n) (recL K m) (chrR kd C i E j)).length k1,.slice B1 (ApL (recN D n) (recL K m) (chrR kd C i E j)).length k2] 52))
 have HB5:=LH (HB4.out.alloc HB4.out.size (Obj.cells #[.slice A1 (ApN (recN D n) (recL K m) (chrR kd C i E j)).length k1,.slice B1 (ApL (recN D n) (recL K m) (chrR kd C i E j)).length k2] 52))
 clear HRX HNX HCX HB4 d0 d1 SA
 have HRX:=HRX5
 clear HRX5
 generalize w4.alloc (Obj.cells #[.slice A1 (ApN (recN D n) (recL K m) (chrR kd C i E j)).length k1,.slice B1 (ApL (recN D n) (recL K m) (chrR kd C i E j)).length k2] 52)=w5 at HRX HB5⊢
 go_wp2_with (first
 |(refine wpList_store_row rfl 34 (.tmp 4) (.tmp 17) rfl (w.heap.size+2) cZc rfl rfl _ _ HRX.out (by kernel_rfl) rfl (by kernel_rfl) ?_))
 refine bodyPost_ret (v:=.tuple #[.agg cZc,.int .i64 er]) (zB3 Tryz.results34 _ _ (w.heap.size+2) 34 cZc _ (by rfl) HRX.out.setRow Tryz.underlying34 rfl (by kernel_rfl) _ (by rfl)) rfl ?_
 refine ⟨0,zDn,zKl,0,0,by rw [HER.out];rfl,by rw [if_neg (by rw [HER.out];exact HE0.out)];rfl,zC9 _ _ _,zC9 _ _ _,zA5 HB5.out HRX.out (by omega)⟩
set_option maxRecDepth 100000 in
set_option maxHeartbeats 16000000 in
theorem r_undo1 (NA LA:Option Addr) (n nc0 m lc0 i j:Nat) (D C:Nds) (K E:Lks) (w:World) (hz:ZZ (recN D n) (recL K m)) (hx:ZN (zA7 C i)) (hl:ZL (zA6 E j)) (hD:NdIn w NA n D) (hK:LkIn w LA m K) (hTx:TabIn w (C.SA i) (C.SN i) (C.SX i) (C.SY i)) (hTl:TabIn w (E.CA j) (E.CN j) (E.CX j) (E.CY j)) (he:ApE (recN D n) (recL K m) (chrR 1 C i E j)=0):
 Calls Tryz.prog 34 #[.agg #[.slice NA n nc0,.slice LA m lc0],.agg (chA 1 C i E j)] w (UndPost (recN D n) (recL K m) (chrR 1 C i E j) w):=by
 obtain ⟨W3,hW3,HB4,HNX,HCX,HRX,HSZ3⟩:=bx3 w #[.slice NA n nc0,.slice LA m lc0] (chA 1 C i E j) cZc 52 34 34
 have SA:Hid (∀w',Below w.heap.size w w'→Calls Tryz.prog 32 #[.agg #[.slice NA n nc0,.slice LA m lc0],.agg (chA 1 C i E j)] w' (AplPost (recN D n) (recL K m) (chrR 1 C i E j) w')):=fun w' hb=>zM3 NA LA n nc0 m lc0 i j 1 D C K E w' hz hx hl (zB1 hD hb) (zA9 hK hb) (hTx.below (nl _) hb) (hTl.below (nl _) hb)
 have HER:=LH he
 have SNm:Hid (∀w',Calls Tryz.prog 55 #[.agg (chA 1 C i E j)] w' fun e w''=>e= .returned (.string (C.Nm i))∧Below w'.heap.size w' w''):=fun w'=>by
  have h:=zL3 1 i j C E w'
  simpa using h
 have SOf:Hid (∀w',Calls Tryz.prog 54 #[.agg (chA 1 C i E j)] w' fun e w''=>e= .returned (.bool true)∧Below w'.heap.size w' w''):=fun w'=>by
  have h:=zF6 1 i j C E w'
  simpa using h
 have SDr:=LH (r_dropT (C.Nm i))
 have SCp:Hid (∀w',Below w.heap.size w w'→Calls Tryz.prog 35 #[.agg #[.slice NA n nc0,.slice LA m lc0]] w' fun e w''=>∃u,e= .returned u∧CpPost (recN D n) (recL K m) w' u w''):=fun w' hb=>zL7 NA LA n nc0 m lc0 D K w' hz.n2 hz.m2 hz.sn hz.cn (zB1 hD hb) (zA9 hK hb)
 clear hz hx hl hD hK hTx hTl he
 go_enter Tryz.func34,Tryz.ntmps34
 go_upto_region 1 with fail
 rw [hW3.out]
 clear hW3
 have HSZ4:Hid (w.heap.size+3≤W3.heap.size):=by show _≤_;rw [HSZ3.out];exact nl _
 clear HSZ3
 obtain ⟨d0,d1⟩:=blk2 HNX.out
 go_upto_region 2 with (first
 |(refine wpList_load_row rfl 34 (.tmp 3) rfl _ rfl _ _ (0,0) _ HCX.out Tryz.underlying34 rfl (by kernel_rfl) ?_)
 |(go_at_call 32
   with_reducible refine (SA.out _ HB4.out).mono ?_
   rintro e w4 ⟨u,rfl,NM1,LM1,A1,B1,k1,k2,q1,q2,rfl,hr1,hb1⟩
   have HNX:=LH (HNX.out.call hb1)
   have HCX:=LH (HCX.out.call hb1)
   have HRX:=LH (HRX.out.call hb1)
   have HB4:=LH (zA1 HB4.out hb1)
   have HSZ4:Hid (w.heap.size+3≤w4.heap.size):=nT HSZ4.out hb1.size
   clear hr1 q1 q2 hb1 d0 d1
   obtain ⟨d0,d1⟩:=blk2 HNX.out))
 rw [HER.out]
 have hal5:=Below.alloc (bR w4.heap.size w4) (nl _) (Obj.cells #[.slice A1 (ApN (recN D n) (recL K m) (chrR 1 C i E j)).length k1,.slice B1 (ApL (recN D n) (recL K m) (chrR 1 C i E j)).length k2] 52)
 have HNX5:=LH (HNX.out.call hal5)
 have HCX5:=LH (HCX.out.call hal5)
 have HRX5:=LH (HRX.out.call hal5)
 have HB5:=LH (zA1 HB4.out hal5)
 clear HNX HCX HRX HB4 d0 d1 SA hal5 HSZ4
 have HNX:=HNX5
 have HCX:=HCX5
 have HRX:=HRX5
 have HB4:=HB5
 clear HNX5 HCX5 HRX5 HB5
 generalize w4.alloc (Obj.cells #[.slice A1 (ApN (recN D n) (recL K m) (chrR 1 C i E j)).length k1,.slice B1 (ApL (recN D n) (recL K m) (chrR 1 C i E j)).length k2] 52)=w5 at HNX HCX HRX HB4⊢
 obtain ⟨d0,d1⟩:=blk2 HNX.out
 have e0:=cA0 HCX.out
 have e1:=cA1 HCX.out
 have e10:=cA10 HCX.out
 go_upto_region 5 with (first
 |(refine wpList_load_row rfl 34 (.tmp 3) rfl _ rfl _ _ (0,0) _ HCX.out Tryz.underlying34 rfl (by kernel_rfl) ?_)
 |(go_at_call 55
   with_reducible refine (SNm.out _).mono ?_
   rintro e w5 ⟨rfl,hb4⟩
   clear d0 d1 e0 e1 e10
   obtain ⟨HNX,HCX,HRX,HB4,d0,d1,e0,e1,e10⟩:=bxB HNX HCX HRX HB4 hb4
   clear hb4))
 go_upto_region 6 with (first
 |(go_at_call 35
   with_reducible refine (SCp.out _ HB4.out).mono ?_
   rintro e w6 ⟨u,rfl,NM,LM,A2,B2,k3,k4,q1,q2,rfl,hr,hb⟩
   rw [zA3,zA4]
   clear d0 d1 e0 e1 e10
   obtain ⟨HNX,HCX,HRX,HB4,d0,d1,e0,e1,e10⟩:=bxB HNX HCX HRX HB4 hb
   have h0:=HNX.out.frozen 0
   have h1:=HNX.out.frozen 1
   clear hr q1 q2 hb))
 have HCX7:=LH ((HCX.out.far (p:=⟨w.heap.size,0,none⟩) (by show w.heap.size+1≠w.heap.size;omega) (.slice A2 n k3)).far (p:=⟨w.heap.size,1,none⟩) (by show w.heap.size+1≠w.heap.size;omega) (.slice B2 m k4))
 have HRX7:=LH ((HRX.out.far (p:=⟨w.heap.size,0,none⟩) (by show w.heap.size+2≠w.heap.size;omega) (.slice A2 n k3)).far (p:=⟨w.heap.size,1,none⟩) (by show w.heap.size+2≠w.heap.size;omega) (.slice B2 m k4))
 have HB7:=LH ((HB4.out.setCell (p:=⟨w.heap.size,0,none⟩) (nl _) (.slice A2 n k3)).setCell (p:=⟨w.heap.size,1,none⟩) (nl _) (.slice B2 m k4))
 clear HNX HCX HRX HB4 d0 d1 e0 e1 e10 h0 h1 SCp SNm
 have HCX:=HCX7
 have HRX:=HRX7
 have HB4:=HB7
 clear HCX7 HRX7 HB7
 generalize (w6.setCell ⟨w.heap.size,0,none⟩ (.slice A2 n k3)).setCell ⟨w.heap.size,1,none⟩ (.slice B2 m k4)=w7 at HCX HRX HB4⊢
 have e0:=cA0 HCX.out
 go_wp2_with (first
 |(refine wpList_load_row rfl 34 (.tmp 3) rfl _ rfl _ _ (0,0) _ HCX.out Tryz.underlying34 rfl (by kernel_rfl) ?_)
 |(go_at_call 54
   with_reducible refine (SOf.out _).mono ?_
   rintro e w8 ⟨rfl,hb4⟩
   have HRX:=LH (HRX.out.call hb4)
   have HB4:=LH (zA1 HB4.out hb4)
   clear hb4)
 |(go_at_call 79
   with_reducible refine (SDr.out _).mono ?_
   rintro e w9 ⟨rfl,hb4⟩
   have HRX:=LH (HRX.out.call hb4)
   have HB4:=LH (zA1 HB4.out hb4)
   clear hb4)
 |(refine wpList_store_row rfl 34 (.tmp 4) (.tmp 68) rfl (w.heap.size+2) (cNm 3 (C.Nm i)) rfl rfl _ _ HRX.out (by kernel_rfl) rfl (by kernel_rfl) ?_))
 refine bodyPost_ret (v:=.tuple #[.agg (cNm 3 (C.Nm i)),.int .i64 0]) (zB3 Tryz.results34 _ _ (w.heap.size+2) 34 (cNm 3 (C.Nm i)) _ (by rfl) HRX.out.setRow Tryz.underlying34 rfl (by kernel_rfl) _ (by rfl)) rfl ?_
 have HF:Hid (Below w.heap.size w (w9.setRow (w.heap.size+2) (cNm 3 (C.Nm i)))):=zA5 HB4.out HRX.out (by omega)
 refine ⟨3,{ zDn with Nm:=fun _=>C.Nm i },zKl,0,0,by rw [HER.out];rfl,by rw [if_pos HER.out,und_1 rfl];rfl,zC9 _ _ _,zC9 _ _ _,HF.out⟩
set_option maxRecDepth 100000 in
set_option maxHeartbeats 16000000 in
theorem r_undo4 (NA LA:Option Addr) (n nc0 m lc0 i j:Nat) (D C:Nds) (K E:Lks) (w:World) (hz:ZZ (recN D n) (recL K m)) (hx:ZN (zA7 C i)) (hl:ZL (zA6 E j)) (hD:NdIn w NA n D) (hK:LkIn w LA m K) (hTx:TabIn w (C.SA i) (C.SN i) (C.SX i) (C.SY i)) (hTl:TabIn w (E.CA j) (E.CN j) (E.CX j) (E.CY j)) (he:ApE (recN D n) (recL K m) (chrR 4 C i E j)=0):
 Calls Tryz.prog 34 #[.agg #[.slice NA n nc0,.slice LA m lc0],.agg (chA 4 C i E j)] w (UndPost (recN D n) (recL K m) (chrR 4 C i E j) w):=by
 obtain ⟨W3,hW3,HB4,HNX,HCX,HRX,HSZ3⟩:=bx3 w #[.slice NA n nc0,.slice LA m lc0] (chA 4 C i E j) cZc 52 34 34
 have SA:Hid (∀w',Below w.heap.size w w'→Calls Tryz.prog 32 #[.agg #[.slice NA n nc0,.slice LA m lc0],.agg (chA 4 C i E j)] w' (AplPost (recN D n) (recL K m) (chrR 4 C i E j) w')):=fun w' hb=>zM3 NA LA n nc0 m lc0 i j 4 D C K E w' hz hx hl (zB1 hD hb) (zA9 hK hb) (hTx.below (nl _) hb) (hTl.below (nl _) hb)
 have HER:=LH he
 have SNm:Hid (∀w',Calls Tryz.prog 55 #[.agg (chA 4 C i E j)] w' fun e w''=>e= .returned (.string (E.Nm j))∧Below w'.heap.size w' w''):=fun w'=>by
  have h:=zL3 4 i j C E w'
  simpa using h
 have SOf:Hid (∀w',Calls Tryz.prog 54 #[.agg (chA 4 C i E j)] w' fun e w''=>e= .returned (.bool false)∧Below w'.heap.size w' w''):=fun w'=>by
  have h:=zF6 4 i j C E w'
  simpa using h
 have SDr:=LH (r_dropF (E.Nm j))
 have SCp:Hid (∀w',Below w.heap.size w w'→Calls Tryz.prog 35 #[.agg #[.slice NA n nc0,.slice LA m lc0]] w' fun e w''=>∃u,e= .returned u∧CpPost (recN D n) (recL K m) w' u w''):=fun w' hb=>zL7 NA LA n nc0 m lc0 D K w' hz.n2 hz.m2 hz.sn hz.cn (zB1 hD hb) (zA9 hK hb)
 clear hz hx hl hD hK hTx hTl he
 go_enter Tryz.func34,Tryz.ntmps34
 go_upto_region 1 with fail
 rw [hW3.out]
 clear hW3
 have HSZ4:Hid (w.heap.size+3≤W3.heap.size):=by show _≤_;rw [HSZ3.out];exact nl _
 clear HSZ3
 obtain ⟨d0,d1⟩:=blk2 HNX.out
 go_upto_region 2 with (first
 |(refine wpList_load_row rfl 34 (.tmp 3) rfl _ rfl _ _ (0,0) _ HCX.out Tryz.underlying34 rfl (by kernel_rfl) ?_)
 |(go_at_call 32
   with_reducible refine (SA.out _ HB4.out).mono ?_
   rintro e w4 ⟨u,rfl,NM1,LM1,A1,B1,k1,k2,q1,q2,rfl,hr1,hb1⟩
   have HNX:=LH (HNX.out.call hb1)
   have HCX:=LH (HCX.out.call hb1)
   have HRX:=LH (HRX.out.call hb1)
   have HB4:=LH (zA1 HB4.out hb1)
   have HSZ4:Hid (w.heap.size+3≤w4.heap.size):=nT HSZ4.out hb1.size
   clear hr1 q1 q2 hb1 d0 d1
   obtain ⟨d0,d1⟩:=blk2 HNX.out))
 rw [HER.out]
 have hal5:=Below.alloc (bR w4.heap.size w4) (nl _) (Obj.cells #[.slice A1 (ApN (recN D n) (recL K m) (chrR 4 C i E j)).length k1,.slice B1 (ApL (recN D n) (recL K m) (chrR 4 C i E j)).length k2] 52)
 have HNX5:=LH (HNX.out.call hal5)
 have HCX5:=LH (HCX.out.call hal5)
 have HRX5:=LH (HRX.out.call hal5)
 have HB5:=LH (zA1 HB4.out hal5)
 clear HNX HCX HRX HB4 d0 d1 SA hal5 HSZ4
 have HNX:=HNX5
 have HCX:=HCX5
 have HRX:=HRX5
 have HB4:=HB5
 clear HNX5 HCX5 HRX5 HB5
 generalize w4.alloc (Obj.cells #[.slice A1 (ApN (recN D n) (recL K m) (chrR 4 C i E j)).length k1,.slice B1 (ApL (recN D n) (recL K m) (chrR 4 C i E j)).length k2] 52)=w5 at HNX HCX HRX HB4⊢
 obtain ⟨d0,d1⟩:=blk2 HNX.out
 have e0:=cA0 HCX.out
 have e1:=cA1 HCX.out
 have e10:=cA10 HCX.out
 go_upto_region 5 with (first
 |(refine wpList_load_row rfl 34 (.tmp 3) rfl _ rfl _ _ (0,0) _ HCX.out Tryz.underlying34 rfl (by kernel_rfl) ?_)
 |(go_at_call 55
   with_reducible refine (SNm.out _).mono ?_
   rintro e w5 ⟨rfl,hb4⟩
   clear d0 d1 e0 e1 e10
   obtain ⟨HNX,HCX,HRX,HB4,d0,d1,e0,e1,e10⟩:=bxB HNX HCX HRX HB4 hb4
   clear hb4))
 go_upto_region 6 with (first
 |(go_at_call 35
   with_reducible refine (SCp.out _ HB4.out).mono ?_
   rintro e w6 ⟨u,rfl,NM,LM,A2,B2,k3,k4,q1,q2,rfl,hr,hb⟩
   rw [zA3,zA4]
   clear d0 d1 e0 e1 e10
   obtain ⟨HNX,HCX,HRX,HB4,d0,d1,e0,e1,e10⟩:=bxB HNX HCX HRX HB4 hb
   have h0:=HNX.out.frozen 0
   have h1:=HNX.out.frozen 1
   clear hr q1 q2 hb))
 have HCX7:=LH ((HCX.out.far (p:=⟨w.heap.size,0,none⟩) (by show w.heap.size+1≠w.heap.size;omega) (.slice A2 n k3)).far (p:=⟨w.heap.size,1,none⟩) (by show w.heap.size+1≠w.heap.size;omega) (.slice B2 m k4))
 have HRX7:=LH ((HRX.out.far (p:=⟨w.heap.size,0,none⟩) (by show w.heap.size+2≠w.heap.size;omega) (.slice A2 n k3)).far (p:=⟨w.heap.size,1,none⟩) (by show w.heap.size+2≠w.heap.size;omega) (.slice B2 m k4))
 have HB7:=LH ((HB4.out.setCell (p:=⟨w.heap.size,0,none⟩) (nl _) (.slice A2 n k3)).setCell (p:=⟨w.heap.size,1,none⟩) (nl _) (.slice B2 m k4))
 clear HNX HCX HRX HB4 d0 d1 e0 e1 e10 h0 h1 SCp SNm
 have HCX:=HCX7
 have HRX:=HRX7
 have HB4:=HB7
 clear HCX7 HRX7 HB7
 generalize (w6.setCell ⟨w.heap.size,0,none⟩ (.slice A2 n k3)).setCell ⟨w.heap.size,1,none⟩ (.slice B2 m k4)=w7 at HCX HRX HB4⊢
 have e0:=cA0 HCX.out
 go_wp2_with (first
 |(refine wpList_load_row rfl 34 (.tmp 3) rfl _ rfl _ _ (0,0) _ HCX.out Tryz.underlying34 rfl (by kernel_rfl) ?_)
 |(go_at_call 54
   with_reducible refine (SOf.out _).mono ?_
   rintro e w8 ⟨rfl,hb4⟩
   have HRX:=LH (HRX.out.call hb4)
   have HB4:=LH (zA1 HB4.out hb4)
   clear hb4)
 |(go_at_call 79
   with_reducible refine (SDr.out _).mono ?_
   rintro e w9 ⟨rfl,hb4⟩
   have HRX:=LH (HRX.out.call hb4)
   have HB4:=LH (zA1 HB4.out hb4)
   clear hb4)
 |(refine wpList_store_row rfl 34 (.tmp 4) (.tmp 68) rfl (w.heap.size+2) #[.int .i64 6,.string ⟨#[]⟩,.int .i64 0,.int .i64 0,.int .i64 0,.int .i64 0,.int .i64 0,.slice none 0 0,.bool false,.int .i64 0,.string (E.Nm j),.string ⟨#[]⟩,.string ⟨#[]⟩,.int .i64 0,.int .i64 0,.int .i64 0,.int .i64 0,.string ⟨#[]⟩,.int .i64 0,.int .i64 0,.slice none 0 0] rfl rfl _ _ HRX.out (by kernel_rfl) rfl (by kernel_rfl) ?_))
 refine bodyPost_ret (v:=.tuple #[.agg #[.int .i64 6,.string ⟨#[]⟩,.int .i64 0,.int .i64 0,.int .i64 0,.int .i64 0,.int .i64 0,.slice none 0 0,.bool false,.int .i64 0,.string (E.Nm j),.string ⟨#[]⟩,.string ⟨#[]⟩,.int .i64 0,.int .i64 0,.int .i64 0,.int .i64 0,.string ⟨#[]⟩,.int .i64 0,.int .i64 0,.slice none 0 0],.int .i64 0]) (zB3 Tryz.results34 _ _ (w.heap.size+2) 34 #[.int .i64 6,.string ⟨#[]⟩,.int .i64 0,.int .i64 0,.int .i64 0,.int .i64 0,.int .i64 0,.slice none 0 0,.bool false,.int .i64 0,.string (E.Nm j),.string ⟨#[]⟩,.string ⟨#[]⟩,.int .i64 0,.int .i64 0,.int .i64 0,.int .i64 0,.string ⟨#[]⟩,.int .i64 0,.int .i64 0,.slice none 0 0] _ (by rfl) HRX.out.setRow Tryz.underlying34 rfl (by kernel_rfl) _ (by rfl)) rfl ?_
 have HF:Hid (Below w.heap.size w (w9.setRow (w.heap.size+2) #[.int .i64 6,.string ⟨#[]⟩,.int .i64 0,.int .i64 0,.int .i64 0,.int .i64 0,.int .i64 0,.slice none 0 0,.bool false,.int .i64 0,.string (E.Nm j),.string ⟨#[]⟩,.string ⟨#[]⟩,.int .i64 0,.int .i64 0,.int .i64 0,.int .i64 0,.string ⟨#[]⟩,.int .i64 0,.int .i64 0,.slice none 0 0])):=zA5 HB4.out HRX.out (by omega)
 refine ⟨6,zDn,{ zKl with Nm:=fun _=>E.Nm j },0,0,by rw [HER.out];rfl,by rw [if_pos HER.out,und_4 rfl];rfl,zC9 _ _ _,zC9 _ _ _,HF.out⟩
end Go.Proofs.YtchakniaoeodmaaGreatDoor

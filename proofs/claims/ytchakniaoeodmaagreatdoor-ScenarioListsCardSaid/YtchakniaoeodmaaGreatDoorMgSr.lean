/- Merged texts of these proofs: SrQ. -/
import Derived.Test.YtchakniaoeodmaaGreatDoorMgSa
import Derived.Test.YtchakniaoeodmaaGreatDoorMgSb
import Derived.Test.YtchakniaoeodmaaGreatDoorMgSc
namespace Go.Proofs.YtchakniaoeodmaaGreatDoor
open Go.RowKit
set_option linter.unusedVariables false
set_option linter.unusedSimpArgs false
theorem zV9 {N:List Ndr} {L:List Lkr} {c:Chr} {w w':World} {e:Ending} (hv:VS N L) (h:ApPost N L c w e w'):AplPost N L c w e w':=by
 obtain ⟨u,he,hp⟩:=h
 obtain ⟨a1,a2,a3⟩:=apl_ap (c:=c) hv
 exact ⟨u,by rw [a1];exact he,by rw [a2,a3];exact hp⟩
set_option maxRecDepth 100000 in
set_option maxHeartbeats 16000000 in
theorem r_apply0 (NA LA:Option Addr) (n nc0 m lc0 i j:Nat) (kd:Int) (D C:Nds) (K E:Lks) (w:World) (hv:VS (recN D n) (recL K m)) (hx:ZN (zA7 C i)) (hl:ZL (zA5 E j)) (hD:NdIn w NA n D) (hK:LkIn w LA m K) (hTx:TabIn w (C.SA i) (C.SN i) (C.SX i) (C.SY i)) (hTl:TabIn w (E.CA j) (E.CN j) (E.CX j) (E.CY j)) (hk:¬(1≤kd∧kd≤6)):
 Calls Tryz.prog 32 #[.agg #[.slice NA n nc0,.slice LA m lc0],.agg (chA kd C i E j)] w (ApPost (recN D n) (recL K m) (chrR kd C i E j) w):=by
 have hzz:=hv.zz
 obtain ⟨W3,hW3,HAL,HNX,HCX,HRX,HSZ3⟩:=bx3 w #[.slice NA n nc0,.slice LA m lc0] (chA kd C i E j) #[.slice none 0 0,.slice none 0 0] 52 34 52
 have HWHY:Hid (apE (recN D n) (recL K m) (chrR kd C i E j)=11):=apE_k hk
 have SV:Hid (∀w',Below w.heap.size w w'→Calls Tryz.prog 28 #[.agg #[.slice NA n nc0,.slice LA m lc0]] w' fun e w''=>e= .returned (.bool true)∧Below w'.heap.size w' w''):=fun w' hb=>by
  have h:=zD2 NA LA n nc0 m lc0 D K hzz.sz w' (zB3 hD hb) (zB1 hK hb)
  rw [zA2 hv.to] at h
  exact h
 obtain ⟨t,ht⟩:∃t,t=decide (kd<1):=⟨_,rfl⟩
 have t2:t=false→decide (kd > 6)=true:=fun q=>dU (by rw [q] at ht;have:=of_decide_eq_false ht.symm;omega)
 have t3:t=false→decide (6<kd)=true:=fun q=>dU (by rw [q] at ht;have:=of_decide_eq_false ht.symm;omega)
 have HT:=LH (And.intro ht (And.intro t2 t3))
 clear hv hx hl hD hK hTx hTl hzz hk t2 t3 ht
 cases t
 all_goals
  have t1:=HT.out.1.symm
  have t2:=HT.out.2.1
  have t3:=HT.out.2.2
  simp only [forall_const,reduceCtorEq,false_implies] at t2 t3
  clear HT
  go_enter Tryz.func32,Tryz.ntmps32
  go_upto_region 1 with fail
  rw [hW3.out]
  clear hW3
  obtain ⟨d0,d1⟩:=blk2 HNX.out
  go_upto_region 4 with (first
   |(go_at_call 28
     with_reducible refine (SV.out _ HAL.out).mono ?_
     rintro e w4 ⟨rfl,hb4⟩
     have HRX4:=LH (HRX.out.call hb4)
     have HB4:=LH (zA1 HAL.out hb4)
     have e0:=(HCX.out.call hb4).cell 0
     simp only [chA,List.getElem?_toArray,List.getElem?_cons_zero,List.getElem?_cons_succ] at e0
     clear hb4))
  obtain ⟨r0,r1⟩:=blk2 HRX4.out
  have g0:=HRX4.out.frozen 0
  have g1:=HRX4.out.frozen 1
  have HRS:=LH ((HRX4.out.set_ 0 (.slice none 0 0)).set_ 1 (.slice none 0 0))
  obtain ⟨z0,z1⟩:=blk2 HRS.out
  have HBE:Hid (Below w.heap.size w ((w4.setCell ⟨w.heap.size+2,0,none⟩ (.slice none 0 0)).setCell ⟨w.heap.size+2,1,none⟩ (.slice none 0 0))):=(HB4.out.setCell (p:=⟨w.heap.size+2,0,none⟩) (by show w.heap.size≤w.heap.size+2;omega) _).setCell (p:=⟨w.heap.size+2,1,none⟩) (by show w.heap.size≤w.heap.size+2;omega) _
  clear d0 d1
  go_wp2_with fail
  refine bodyPost_ret (v:=.tuple #[.agg #[.slice none 0 0,.slice none 0 0],.int .i64 11]) (by simp [results,Tryz.results32,go_sem,z0,z1]) rfl ?_
  exact zF0 (by decide) HWHY.out rfl HBE.out
set_option maxRecDepth 100000 in
set_option maxHeartbeats 16000000 in
theorem r_applyV (NA LA:Option Addr) (n nc0 m lc0 i j:Nat) (kd:Int) (D C:Nds) (K E:Lks) (w:World) (hz:ZZ (recN D n) (recL K m)) (hx:ZN (zA7 C i)) (hl:ZL (zA5 E j)) (hD:NdIn w NA n D) (hK:LkIn w LA m K) (hTx:TabIn w (C.SA i) (C.SN i) (C.SX i) (C.SY i)) (hTl:TabIn w (E.CA j) (E.CN j) (E.CX j) (E.CY j)) (hV:¬VS (recN D n) (recL K m)):
 Calls Tryz.prog 32 #[.agg #[.slice NA n nc0,.slice LA m lc0],.agg (chA kd C i E j)] w (AplPost (recN D n) (recL K m) (chrR kd C i E j) w):=by
 obtain ⟨W3,hW3,HAL,HNX,HCX,HRX,HSZ3⟩:=bx3 w #[.slice NA n nc0,.slice LA m lc0] (chA kd C i E j) #[.slice none 0 0,.slice none 0 0] 52 34 52
 have SV:Hid (∀w',Below w.heap.size w w'→Calls Tryz.prog 28 #[.agg #[.slice NA n nc0,.slice LA m lc0]] w' fun e w''=>e= .returned (.bool false)∧Below w'.heap.size w' w''):=fun w' hb=>by
  have h:=zD2 NA LA n nc0 m lc0 D K hz.sz w' (zB3 hD hb) (zB1 hK hb)
  rw [zA0 (fun q=>hV (VS.of q))] at h
  exact h
 have HV:=LH hV
 clear hz hx hl hD hK hTx hTl hV
 go_enter Tryz.func32,Tryz.ntmps32
 go_upto_region 1 with fail
 rw [hW3.out]
 clear hW3
 obtain ⟨d0,d1⟩:=blk2 HNX.out
 go_wp2_with (first
  |(go_at_call 28
    with_reducible refine (SV.out _ HAL.out).mono ?_
    rintro e w4 ⟨rfl,hb4⟩
    have HR4:=HRX.out.call hb4
    have HB4:=LH (zA1 HAL.out hb4)
    obtain ⟨r0,r1⟩:=blk2 HR4
    have g0:=HR4.frozen 0
    have g1:=HR4.frozen 1
    have HRS:=LH ((HR4.set_ 0 (.slice none 0 0)).set_ 1 (.slice none 0 0))
    obtain ⟨z0,z1⟩:=blk2 HRS.out
    clear hb4 HR4))
 refine bodyPost_ret (v:=.tuple #[.agg #[.slice none 0 0,.slice none 0 0],.int .i64 1]) (by simp [results,Tryz.results32,go_sem,z0,z1]) rfl ?_
 exact apl_bad HV.out rfl ((HB4.out.setCell (p:=⟨w.heap.size+2,0,none⟩) (by show w.heap.size≤w.heap.size+2;omega) _).setCell (p:=⟨w.heap.size+2,1,none⟩) (by show w.heap.size≤w.heap.size+2;omega) _)
theorem r_Apply (NA LA:Option Addr) (n nc0 m lc0 i j:Nat) (kd:Int) (D C:Nds) (K E:Lks) (w:World) (hz:ZZ (recN D n) (recL K m)) (hx:ZN (zA7 C i)) (hl:ZL (zA5 E j)) (hD:NdIn w NA n D) (hK:LkIn w LA m K) (hTx:TabIn w (C.SA i) (C.SN i) (C.SX i) (C.SY i)) (hTl:TabIn w (E.CA j) (E.CN j) (E.CX j) (E.CY j)):
 Calls Tryz.prog 32 #[.agg #[.slice NA n nc0,.slice LA m lc0],.agg (chA kd C i E j)] w (AplPost (recN D n) (recL K m) (chrR kd C i E j) w):=by
 by_cases hv:VS (recN D n) (recL K m)
 ·by_cases h0:1≤kd∧kd≤6
  ·have hk:kd=1∨kd=2∨kd=3∨kd=4∨kd=5∨kd=6:=by omega
   rcases hk with rfl |rfl |rfl |rfl |rfl |rfl
   ·exact (r_apply1 NA LA n nc0 m lc0 i j D C K E w hv hx hl hD hK hTx hTl).mono fun e w' h=>zV9 hv h
   ·exact (r_apply2 NA LA n nc0 m lc0 i j D C K E w hv hx hl hD hK hTx hTl).mono fun e w' h=>zV9 hv h
   ·exact (r_apply3 NA LA n nc0 m lc0 i j D C K E w hv hx hl hD hK hTx hTl).mono fun e w' h=>zV9 hv h
   ·exact (r_apply4 NA LA n nc0 m lc0 i j D C K E w hv hx hl hD hK hTx hTl).mono fun e w' h=>zV9 hv h
   ·exact (r_apply5 NA LA n nc0 m lc0 i j D C K E w hv hx hl hD hK hTx hTl).mono fun e w' h=>zV9 hv h
   ·exact (r_apply6 NA LA n nc0 m lc0 i j D C K E w hv hx hl hD hK hTx hTl).mono fun e w' h=>zV9 hv h
  ·exact (r_apply0 NA LA n nc0 m lc0 i j kd D C K E w hv hx hl hD hK hTx hTl h0).mono fun e w' h=>zV9 hv h
 ·exact r_applyV NA LA n nc0 m lc0 i j kd D C K E w hz hx hl hD hK hTx hTl hv
end Go.Proofs.YtchakniaoeodmaaGreatDoor

/- Merged texts of these proofs: ScQ, ScN, ScX. -/
import Derived.Test.YtchakniaoeodmaaGreatDoorMgX
import Derived.Test.YtchakniaoeodmaaGreatDoorMgY
import Derived.Test.YtchakniaoeodmaaGreatDoorMgZZ
import Derived.Deep.MidRow
namespace Go.Proofs.YtchakniaoeodmaaGreatDoor
open Go.RowKit
set_option linter.unusedVariables false
set_option linter.unusedSimpArgs false
set_option maxRecDepth 100000 in
set_option maxHeartbeats 16000000 in
theorem sc_apply0 (NA LA:Option Addr) (n nc0 m lc0 i j:Nat) (kd:Int) (D C:Nds) (K E:Lks) (w:World) (hv:VS (recN D n) (recL K m)) (hx:ZN (zA7 C i)) (hl:ZL (zA5 E j)) (hD:NdIn w NA n D) (hK:LkIn w LA m K) (hTx:TabIn w (C.SA i) (C.SN i) (C.SX i) (C.SY i)) (hTl:TabIn w (E.CA j) (E.CN j) (E.CX j) (E.CY j)) (hk:¬(1≤kd∧kd≤6)):
 Calls Tryz.prog 70 #[.agg #[.slice NA n nc0,.slice LA m lc0],.agg (chA kd C i E j)] w (ApPost (recN D n) (recL K m) (chrR kd C i E j) w):=by
 have hzz:=hv.zz
 have HD:=LH hD
 have HK:=LH hK
 obtain ⟨W3,hW3,HAL,HNX,HCX,HRX,HSZ3⟩:=bx3 w #[.slice NA n nc0,.slice LA m lc0] (chA kd C i E j) #[.slice none 0 0,.slice none 0 0] 52 34 52
 have SO:=LH (zE8 kd)
 rw [dF hk] at SO
 have t1:(kd==1)=false:=by simp;omega
 have t4:(kd==4)=false:=by simp;omega
 have HWHY:Hid (apE (recN D n) (recL K m) (chrR kd C i E j)=11):=apE_k hk
 obtain ⟨v,hvv⟩:∃v,v=if kd=1∨kd=2∨kd=3 then fnd D.Nm n (C.Nm i) else fnd K.Nm m (E.Nm j):=⟨_,rfl⟩
 have SF:Hid (∀w',Below w.heap.size w w'→Calls Tryz.prog 74 #[.agg #[.slice NA n nc0,.slice LA m lc0],.agg (chA kd C i E j)] w' fun e w''=>e= .returned (.int .i64 v)∧Below w'.heap.size w' w''):=fun w' hb=>zF1 NA LA (C.SA i) (E.CA j) n nc0 m lc0 (C.SN i) (C.SC i) (E.CN j) (E.CC j) D K kd (C.Kd i) (C.Ax i) (C.Ay i) (C.Iv i) (C.Gd i) (C.Rs i) (E.Kd j) (E.Ln j) (E.Up j) (E.Dn j) (E.Wd j) (E.Ht j) (C.Nm i) (E.Nm j) (E.Fr j) (E.To j) (E.Sc j) (C.Pt i) w' hzz.n2 hzz.m2 (HD.out.below (nl _) hb) (HK.out.below (nl _) hb) v hvv
 clear hv hx hl hD hK hTx hTl hzz hk hvv
 go_enter Tryz.func70,Tryz.ntmps70
 go_upto_region 1 with fail
 rw [hW3.out]
 clear hW3
 obtain ⟨d0,d1⟩:=blk2 HNX.out
 go_upto_region 2 with (first
  |(refine wpList_load_row rfl 34 (.tmp 3) rfl _ rfl _ _ (0,0) _ HCX.out Tryz.underlying34 rfl (by kernel_rfl) ?_)
  |(go_at_call 74
    with_reducible refine (SF.out _ HAL.out).mono ?_
    rintro e w4 ⟨rfl,hb4⟩
    have HCX4:=LH (HCX.out.call hb4)
    have HRX4:=LH (HRX.out.call hb4)
    have HB4:=LH (zA1 HAL.out hb4)
    clear hb4))
 obtain ⟨r0,r1⟩:=blk2 HRX4.out
 have g0:=HRX4.out.frozen 0
 have g1:=HRX4.out.frozen 1
 have e0:=cA0 HCX4.out
 have HRS:=LH ((HRX4.out.set_ 0 (.slice none 0 0)).set_ 1 (.slice none 0 0))
 obtain ⟨z0,z1⟩:=blk2 HRS.out
 have HBE:Hid (Below w.heap.size w ((w4.setCell ⟨w.heap.size+2,0,none⟩ (.slice none 0 0)).setCell ⟨w.heap.size+2,1,none⟩ (.slice none 0 0))):=(HB4.out.setCell (p:=⟨w.heap.size+2,0,none⟩) (by show w.heap.size≤w.heap.size+2;omega) _).setCell (p:=⟨w.heap.size+2,1,none⟩) (by show w.heap.size≤w.heap.size+2;omega) _
 clear d0 d1
 go_wp2_with (first
  |(go_at_call 119;(with_reducible refine (SO.out _).mono ?_);rintro e w' ⟨rfl,hw'⟩;obtain rfl:w4=w':=hw'.symm))
 refine bodyPost_ret (v:=.tuple #[.agg #[.slice none 0 0,.slice none 0 0],.int .i64 11]) (by simp [results,Tryz.results70,go_sem,z0,z1]) rfl ?_
 exact zF0 (by decide) HWHY.out rfl HBE.out
theorem sc_apply (NA LA:Option Addr) (n nc0 m lc0 i j:Nat) (kd:Int) (D C:Nds) (K E:Lks) (w:World) (hv:VS (recN D n) (recL K m)) (hx:ZN (zA7 C i)) (hl:ZL (zA5 E j)) (hD:NdIn w NA n D) (hK:LkIn w LA m K) (hTx:TabIn w (C.SA i) (C.SN i) (C.SX i) (C.SY i)) (hTl:TabIn w (E.CA j) (E.CN j) (E.CX j) (E.CY j)):
 Calls Tryz.prog 70 #[.agg #[.slice NA n nc0,.slice LA m lc0],.agg (chA kd C i E j)] w (ApPost (recN D n) (recL K m) (chrR kd C i E j) w):=by
 by_cases h0:1≤kd∧kd≤6
 ·have hk:kd=1∨kd=2∨kd=3∨kd=4∨kd=5∨kd=6:=by omega
  rcases hk with rfl |rfl |rfl |rfl |rfl |rfl
  ·exact sc_apply1 NA LA n nc0 m lc0 i j D C K E w hv hx hl hD hK hTx hTl
  ·exact sc_apply2 NA LA n nc0 m lc0 i j D C K E w hv hx hl hD hK hTx hTl
  ·exact sc_apply3 NA LA n nc0 m lc0 i j D C K E w hv hx hl hD hK hTx hTl
  ·exact sc_apply4 NA LA n nc0 m lc0 i j D C K E w hv hx hl hD hK hTx hTl
  ·exact sc_apply5 NA LA n nc0 m lc0 i j D C K E w hv hx hl hD hK hTx hTl
  ·exact sc_apply6 NA LA n nc0 m lc0 i j D C K E w hv hx hl hD hK hTx hTl
 ·exact sc_apply0 NA LA n nc0 m lc0 i j kd D C K E w hv hx hl hD hK hTx hTl h0
noncomputable def ApE (N:List Ndr) (L:List Lkr) (c:Chr):Int:=@ite _ (VS N L) (Classical.propDecidable _) (apE N L c) 1
noncomputable def ApN (N:List Ndr) (L:List Lkr) (c:Chr):List Ndr:=if ApE N L c=0 then opN N c else []
noncomputable def ApL (N:List Ndr) (L:List Lkr) (c:Chr):List Lkr:=if ApE N L c=0 then opL L c else []
def AplPost (N:List Ndr) (L:List Lkr) (c:Chr) (w:World) (e:Ending) (w':World):Prop:=∃u,e= .returned (.tuple #[u,.int .i64 (ApE N L c)])∧CpPost (ApN N L c) (ApL N L c) w u w'
theorem apl_bad {N:List Ndr} {L:List Lkr} {c:Chr} {w w':World} {e:Ending} (hv:¬VS N L) (he:e= .returned (.tuple #[.agg #[.slice none 0 0,.slice none 0 0],.int .i64 1])) (hb:Below w.heap.size w w'):AplPost N L c w e w':=by
 have h:ApE N L c=1:=if_neg hv
 refine ⟨_,by rw [h];exact he,?_⟩
 unfold ApN ApL
 rw [if_neg (by omega),if_neg (by omega)]
 exact cp_nil hb
theorem apl_ap {N:List Ndr} {L:List Lkr} {c:Chr} (hv:VS N L):ApE N L c=apE N L c∧ApN N L c=apN N L c∧ApL N L c=apL N L c:=by
 have h:ApE N L c=apE N L c:=if_pos hv
 refine ⟨h,?_,?_⟩
 ·unfold ApN apN;rw [h]
 ·unfold ApL apL;rw [h]
set_option maxRecDepth 100000 in
set_option maxHeartbeats 16000000 in
theorem sc_Apply (NA LA:Option Addr) (n nc0 m lc0 i j:Nat) (kd:Int) (D C:Nds) (K E:Lks) (w:World) (hz:ZZ (recN D n) (recL K m)) (hx:ZN (zA7 C i)) (hl:ZL (zA5 E j)) (hD:NdIn w NA n D) (hK:LkIn w LA m K) (hTx:TabIn w (C.SA i) (C.SN i) (C.SX i) (C.SY i)) (hTl:TabIn w (E.CA j) (E.CN j) (E.CX j) (E.CY j)):
 Calls Tryz.prog 31 #[.agg #[.slice NA n nc0,.slice LA m lc0],.agg (chA kd C i E j)] w (AplPost (recN D n) (recL K m) (chrR kd C i E j) w):=by
 have HD:=LH hD
 have HK:=LH hK
 have HX:=LH hx
 have HL:=LH hl
 have HTx:=LH hTx
 have HTl:=LH hTl
 have HZ:=LH hz
 obtain ⟨W3,hW3,HAL,HNX,HCX,HRX,HSZ3⟩:=bx3 w #[.slice NA n nc0,.slice LA m lc0] (chA kd C i E j) #[.slice none 0 0,.slice none 0 0] 52 34 52
 clear hz hx hl hD hK hTx hTl
 go_enter Tryz.func31,Tryz.ntmps31
 go_upto_region 1 with fail
 rw [hW3.out]
 clear hW3
 obtain ⟨d0,d1⟩:=blk2 HNX.out
 by_cases hV:VS (recN D n) (recL K m)
 ·have SV:Hid (Calls Tryz.prog 68 #[.agg #[.slice NA n nc0,.slice LA m lc0]] W3 fun e w''=>e= .returned (.bool true)∧Below W3.heap.size W3 w''):=by
   have h:=zF4 NA LA n nc0 m lc0 D K HZ.out.sz W3 (zB3 HD.out HAL.out) (zB1 HK.out HAL.out)
   rw [zA2 hV.to] at h
   exact h
  have HV:=LH hV
  clear hV
  go_upto_region 3 with (first
   |(go_at_call 68
     with_reducible refine SV.out.mono ?_
     rintro e w4 ⟨rfl,hb4⟩
     have HNX4:=LH (HNX.out.call hb4)
     have HCX4:=LH (HCX.out.call hb4)
     have HRX4:=LH (HRX.out.call hb4)
     have HB4:=LH (zA1 HAL.out hb4)
     have HSZ4:Hid (w.heap.size+3≤w4.heap.size):=by show _≤_;rw [←HSZ3.out];exact hb4.size
     clear hb4))
  have SA:Hid (Calls Tryz.prog 70 #[.agg #[.slice NA n nc0,.slice LA m lc0],.agg (chA kd C i E j)] w4 (ApPost (recN D n) (recL K m) (chrR kd C i E j) w4)):=sc_apply NA LA n nc0 m lc0 i j kd D C K E w4 HV.out HX.out HL.out (zB3 HD.out HB4.out) (zB1 HK.out HB4.out) (HTx.out.below (nl _) HB4.out) (HTl.out.below (nl _) HB4.out)
  clear d0 d1
  obtain ⟨d0,d1⟩:=blk2 HNX4.out
  go_wp2_with (first
   |(refine wpList_load_row rfl 34 (.tmp 3) rfl _ rfl _ _ (0,0) _ HCX4.out Tryz.underlying34 rfl (by kernel_rfl) ?_)
   |(go_at_call 70
     with_reducible refine SA.out.mono ?_
     rintro e w5 ⟨u,rfl,NM1,LM1,A1,B1,k1,k2,q1,q2,rfl,hr1,hb1⟩
     have HCR:=LH hr1
     have HQ1:=LH q1
     have HQ2:=LH q2
     have HB5:=LH (zA1 HB4.out hb1)
     have HR5:=HRX4.out.call hb1
     obtain ⟨r0,r1⟩:=blk2 HR5
     have g0:=HR5.frozen 0
     have g1:=HR5.frozen 1
     have HRS:=LH ((HR5.set_ 0 (.slice A1 (apN (recN D n) (recL K m) (chrR kd C i E j)).length k1)).set_ 1 (.slice B1 (apL (recN D n) (recL K m) (chrR kd C i E j)).length k2))
     obtain ⟨z0,z1⟩:=blk2 HRS.out
     clear hr1 q1 q2 hb1 HR5))
  have HFN:=zE9 HCR.out HB5.out (g:=w.heap.size+2) (by omega) (by have:=HSZ4.out;omega)
  rw [HQ1.out,HQ2.out] at HFN
  have HFN:=LH HFN
  refine bodyPost_ret (v:=.tuple #[.agg #[.slice A1 (apN (recN D n) (recL K m) (chrR kd C i E j)).length k1,.slice B1 (apL (recN D n) (recL K m) (chrR kd C i E j)).length k2],.int .i64 (apE (recN D n) (recL K m) (chrR kd C i E j))]) (by simp [results,Tryz.results31,go_sem,z0,z1]) rfl ?_
  obtain ⟨a1,a2,a3⟩:=apl_ap (c:=chrR kd C i E j) HV.out
  refine ⟨_,by rw [a1],?_⟩
  rw [a2,a3]
  exact HFN.out
 ·have SV:Hid (Calls Tryz.prog 68 #[.agg #[.slice NA n nc0,.slice LA m lc0]] W3 fun e w''=>e= .returned (.bool false)∧Below W3.heap.size W3 w''):=by
   have h:=zF4 NA LA n nc0 m lc0 D K HZ.out.sz W3 (zB3 HD.out HAL.out) (zB1 HK.out HAL.out)
   rw [zA0 (fun q=>hV (VS.of q))] at h
   exact h
  have HV:=LH hV
  clear hV
  go_wp2_with (first
   |(go_at_call 68
     with_reducible refine SV.out.mono ?_
     rintro e w4 ⟨rfl,hb4⟩
     have HR4:=HRX.out.call hb4
     have HB4:=LH (zA1 HAL.out hb4)
     obtain ⟨r0,r1⟩:=blk2 HR4
     have g0:=HR4.frozen 0
     have g1:=HR4.frozen 1
     have HRS:=LH ((HR4.set_ 0 (.slice none 0 0)).set_ 1 (.slice none 0 0))
     obtain ⟨z0,z1⟩:=blk2 HRS.out
     clear hb4 HR4))
  refine bodyPost_ret (v:=.tuple #[.agg #[.slice none 0 0,.slice none 0 0],.int .i64 1]) (by simp [results,Tryz.results31,go_sem,z0,z1]) rfl ?_
  exact apl_bad HV.out rfl ((HB4.out.setCell (p:=⟨w.heap.size+2,0,none⟩) (by show w.heap.size≤w.heap.size+2;omega) _).setCell (p:=⟨w.heap.size+2,1,none⟩) (by show w.heap.size≤w.heap.size+2;omega) _)
theorem Blk.setRow {w:World} {g:Nat} {t:TypeId} {cs cs':Array Value} (h:Blk w g t cs):Blk (w.setRow g cs') g t cs':=setRow_heap w g cs cs' t (0,0) h
theorem gr_setRow {w:World} {g:Nat} {t:TypeId} {cs cs':Array Value} (h:Blk w g t cs):w.grownBy (w.setRow g cs') (some g):=⟨rfl,rfl,rfl,by simp [World.setRow],fun k _ hk=>setRow_other w g k cs' (fun q=>hk (by rw [q]))⟩
theorem Blk.farRow {w:World} {g q:Nat} {t:TypeId} {cs:Array Value} (h:Blk w g t cs) (hne:g≠q) (cs':Array Value):Blk (w.setRow q cs') g t cs:=(setRow_other w q g cs' hne).trans h
theorem zB4 {B:Nat} {w0 w:World} {g:Nat} {t:TypeId} {cs cs':Array Value} (hb:Below B w0 w) (h:Blk w g t cs) (hB:B≤g):Below B w0 (w.setRow g cs'):=zA9 hb (nT hB (Nat.le_of_lt h.lt)) (gr_setRow h) (fun q e=>by have:=Option.some.inj e;omega)
theorem zT1 {P:Program} (w:World) (g o:Nat) (ty t:TypeId) (cur cells:Array Value) (hg:w.heap[g]?=some (.cells cur t (0,0))) (hl:o+cells.size≤cur.size) (hi:(P.info? ty).map (·.size)=some cells.size) (h1:cells.all (·.oneCell')=true):
 (storeVar ty ⟨g,o,none⟩ (.agg cells)).run P w= .ok () (w.setRow g (cur.toList.take o++cells.toList++cur.toList.drop (o+cells.size)).toArray):=by
 have:=run_storeCells_at (P:=P) g o t cells.toList 0 cur w hg (by simpa using hl) (fun v hv=>(Array.all_eq_true_iff_forall_mem.1 h1) v (by simpa using hv))
 cases hq:P.info? ty with
 |none=>simp [hq] at hi
 |some i=>
  have hs:cells.size=i.size:=by simp [hq] at hi;omega
  simp only [Nat.add_zero] at this
  simp [storeVar,sizeOf,typeInfo,hq,Value.cells,hs,this]
theorem wpList_store_blk {P:Program} {ops:Array Oper} {rest:List Oper} {op:Oper} {a:Act} {w:World} {Q:Exit→Act→World→Prop} (hgd:op.guard=none) (ty:TypeId) (x y:Operand) (ho:op.op= .store ty x y)
 (g o:Nat) (cells cur new:Array Value) (t:TypeId) (hx:a.eval x= .pointer (some ⟨g,o,none⟩)) (hy:a.eval y= .agg cells) (hg:Blk w g t cur) (hl:o+cells.size≤cur.size) (hi:(P.info? ty).map (·.size)=some cells.size) (h1:cells.all (·.oneCell')=true)
 (hnew:(cur.toList.take o++cells.toList++cur.toList.drop (o+cells.size)).toArray=new)
 (h:wpList P ops Q rest (a.put op.dst undef) (w.setRow g new)):wpList P ops Q (op::rest) a w:=by
 subst hnew
 refine wpList_plain hgd fun _ hK=>?_
 unfold Oper.wp execOp
 simp only [ho,hx,hy,Instr.storeAt,Instr.sureAddr,Sem.run_bind,Sem.run_pure,Result.andThen_ok,zT1 w g o ty t cur cells hg hl hi h1]
 exact hK _ _ h
theorem zG4 {p:Prop}:boolOf p=true↔p:=⟨fun h=>Classical.byContradiction fun q=>Bool.noConfusion ((zA0 q).symm.trans h),fun h=>zA2 h⟩
theorem bel_call {w w':World} {o:Obj} (h:Below (w.alloc o).heap.size (w.alloc o) w'):Below w.heap.size w w':=zA1 ((bR _ w).alloc (nl _) o) h
set_option maxRecDepth 100000 in
set_option maxHeartbeats 8000000 in
theorem zG5 (kd:Int) (i j:Nat) (C:Nds) (E:Lks) (w:World):Calls Tryz.prog 54 #[.agg (chA kd C i E j)] w fun e w'=>e= .returned (.bool (decide (kd=1∨kd=2∨kd=3)))∧Below w.heap.size w w':=by
 by_cases h1:kd=1
 ·subst h1
  have e:((1:Int)=1∨(1:Int)=2∨(1:Int)=3)=True:=by simp
  simp only [e,decide_true,if_true]
  clear e
  have HB:Hid (Blk (w.alloc (Obj.cells (chA 1 C i E j) 34)) w.heap.size 34 (chA 1 C i E j)):=Blk.new _ _ _
  go_enter Tryz.func54,Tryz.ntmps54
  go_upto_region 1 with fail
  have HAL:Hid (Below w.heap.size w (w.alloc (Obj.cells (chA 1 C i E j) 34))):=(bR _ w).alloc (nl _) _
  generalize w.alloc (Obj.cells (chA 1 C i E j) 34)=W at HB HAL⊢
  have e0:=HB.out.cell 0
  simp only [chA,List.getElem?_toArray,List.getElem?_cons_zero,List.getElem?_cons_succ] at e0
  go_wp2_with fail
  go_ret
  exact ⟨rfl,HAL.out⟩
 by_cases h2:kd=2
 ·subst h2
  have e:((2:Int)=1∨(2:Int)=2∨(2:Int)=3)=True:=by simp
  simp only [e,decide_true,if_true]
  clear e h1
  have HB:Hid (Blk (w.alloc (Obj.cells (chA 2 C i E j) 34)) w.heap.size 34 (chA 2 C i E j)):=Blk.new _ _ _
  go_enter Tryz.func54,Tryz.ntmps54
  go_upto_region 1 with fail
  have HAL:Hid (Below w.heap.size w (w.alloc (Obj.cells (chA 2 C i E j) 34))):=(bR _ w).alloc (nl _) _
  generalize w.alloc (Obj.cells (chA 2 C i E j) 34)=W at HB HAL⊢
  have e0:=HB.out.cell 0
  simp only [chA,List.getElem?_toArray,List.getElem?_cons_zero,List.getElem?_cons_succ] at e0
  go_wp2_with fail
  go_ret
  exact ⟨rfl,HAL.out⟩
 by_cases h3:kd=3
 ·subst h3
  have e:((3:Int)=1∨(3:Int)=2∨(3:Int)=3)=True:=by simp
  simp only [e,decide_true,if_true]
  clear e h1 h2
  have HB:Hid (Blk (w.alloc (Obj.cells (chA 3 C i E j) 34)) w.heap.size 34 (chA 3 C i E j)):=Blk.new _ _ _
  go_enter Tryz.func54,Tryz.ntmps54
  go_upto_region 1 with fail
  have HAL:Hid (Below w.heap.size w (w.alloc (Obj.cells (chA 3 C i E j) 34))):=(bR _ w).alloc (nl _) _
  generalize w.alloc (Obj.cells (chA 3 C i E j) 34)=W at HB HAL⊢
  have e0:=HB.out.cell 0
  simp only [chA,List.getElem?_toArray,List.getElem?_cons_zero,List.getElem?_cons_succ] at e0
  go_wp2_with fail
  go_ret
  exact ⟨rfl,HAL.out⟩
 have t1:(kd==1)=false:=by simp [h1]
 have t2:(kd==2)=false:=by simp [h2]
 have t3:(kd==3)=false:=by simp [h3]
 have e:(kd=1∨kd=2∨kd=3)=False:=by simp [h1,h2,h3]
 simp only [e,decide_false,if_false]
 clear h1 h2 h3 e
 have HB:Hid (Blk (w.alloc (Obj.cells (chA kd C i E j) 34)) w.heap.size 34 (chA kd C i E j)):=Blk.new _ _ _
 go_enter Tryz.func54,Tryz.ntmps54
 go_upto_region 1 with fail
 have HAL:Hid (Below w.heap.size w (w.alloc (Obj.cells (chA kd C i E j) 34))):=(bR _ w).alloc (nl _) _
 generalize w.alloc (Obj.cells (chA kd C i E j) 34)=W at HB HAL⊢
 have e0:=HB.out.cell 0
 simp only [chA,List.getElem?_toArray,List.getElem?_cons_zero,List.getElem?_cons_succ] at e0
 go_wp2_with fail
 go_ret
 exact ⟨rfl,HAL.out⟩
set_option maxRecDepth 100000 in
set_option maxHeartbeats 8000000 in
theorem zW8 (kd:Int) (i j:Nat) (C:Nds) (E:Lks) (w:World):Calls Tryz.prog 55 #[.agg (chA kd C i E j)] w fun e w'=>e= .returned (.string (if kd=1∨kd=2∨kd=3 then C.Nm i else E.Nm j))∧Below w.heap.size w w':=by
 by_cases h1:kd=1
 ·subst h1
  have e:((1:Int)=1∨(1:Int)=2∨(1:Int)=3)=True:=by simp
  simp only [e,decide_true,if_true]
  clear e
  have HB:Hid (Blk (w.alloc (Obj.cells (chA 1 C i E j) 34)) w.heap.size 34 (chA 1 C i E j)):=Blk.new _ _ _
  have SO:=LH (zG5 1 i j C E)
  simp only [show ((1:Int)=1∨(1:Int)=2∨(1:Int)=3)=True from by simp,decide_true] at SO
  go_enter Tryz.func55,Tryz.ntmps55
  go_upto_region 1 with fail
  have HAL:Hid (Below w.heap.size w (w.alloc (Obj.cells (chA 1 C i E j) 34))):=(bR _ w).alloc (nl _) _
  generalize w.alloc (Obj.cells (chA 1 C i E j) 34)=W at HB HAL⊢
  go_wp2_with (first
   |(refine wpList_load_row rfl 34 (.tmp 1) rfl _ rfl _ _ (0,0) _ HB.out Tryz.underlying34 rfl (by kernel_rfl) ?_)
   |(go_at_call 54
     with_reducible refine (SO.out _).mono ?_
     rintro e w4 ⟨rfl,hb4⟩
     have e1:=(HB.out.call hb4).cell 1
     simp only [chA,List.getElem?_toArray,List.getElem?_cons_zero,List.getElem?_cons_succ] at e1
     have HB4:=LH (zA1 HAL.out hb4)
     clear hb4))
  go_ret
  exact ⟨rfl,HB4.out⟩
 by_cases h2:kd=2
 ·subst h2
  have e:((2:Int)=1∨(2:Int)=2∨(2:Int)=3)=True:=by simp
  simp only [e,decide_true,if_true]
  clear e h1
  have HB:Hid (Blk (w.alloc (Obj.cells (chA 2 C i E j) 34)) w.heap.size 34 (chA 2 C i E j)):=Blk.new _ _ _
  have SO:=LH (zG5 2 i j C E)
  simp only [show ((2:Int)=1∨(2:Int)=2∨(2:Int)=3)=True from by simp,decide_true] at SO
  go_enter Tryz.func55,Tryz.ntmps55
  go_upto_region 1 with fail
  have HAL:Hid (Below w.heap.size w (w.alloc (Obj.cells (chA 2 C i E j) 34))):=(bR _ w).alloc (nl _) _
  generalize w.alloc (Obj.cells (chA 2 C i E j) 34)=W at HB HAL⊢
  go_wp2_with (first
   |(refine wpList_load_row rfl 34 (.tmp 1) rfl _ rfl _ _ (0,0) _ HB.out Tryz.underlying34 rfl (by kernel_rfl) ?_)
   |(go_at_call 54
     with_reducible refine (SO.out _).mono ?_
     rintro e w4 ⟨rfl,hb4⟩
     have e1:=(HB.out.call hb4).cell 1
     simp only [chA,List.getElem?_toArray,List.getElem?_cons_zero,List.getElem?_cons_succ] at e1
     have HB4:=LH (zA1 HAL.out hb4)
     clear hb4))
  go_ret
  exact ⟨rfl,HB4.out⟩
 by_cases h3:kd=3
 ·subst h3
  have e:((3:Int)=1∨(3:Int)=2∨(3:Int)=3)=True:=by simp
  simp only [e,decide_true,if_true]
  clear e h1 h2
  have HB:Hid (Blk (w.alloc (Obj.cells (chA 3 C i E j) 34)) w.heap.size 34 (chA 3 C i E j)):=Blk.new _ _ _
  have SO:=LH (zG5 3 i j C E)
  simp only [show ((3:Int)=1∨(3:Int)=2∨(3:Int)=3)=True from by simp,decide_true] at SO
  go_enter Tryz.func55,Tryz.ntmps55
  go_upto_region 1 with fail
  have HAL:Hid (Below w.heap.size w (w.alloc (Obj.cells (chA 3 C i E j) 34))):=(bR _ w).alloc (nl _) _
  generalize w.alloc (Obj.cells (chA 3 C i E j) 34)=W at HB HAL⊢
  go_wp2_with (first
   |(refine wpList_load_row rfl 34 (.tmp 1) rfl _ rfl _ _ (0,0) _ HB.out Tryz.underlying34 rfl (by kernel_rfl) ?_)
   |(go_at_call 54
     with_reducible refine (SO.out _).mono ?_
     rintro e w4 ⟨rfl,hb4⟩
     have e1:=(HB.out.call hb4).cell 1
     simp only [chA,List.getElem?_toArray,List.getElem?_cons_zero,List.getElem?_cons_succ] at e1
     have HB4:=LH (zA1 HAL.out hb4)
     clear hb4))
  go_ret
  exact ⟨rfl,HB4.out⟩
 have t1:(kd==1)=false:=by simp [h1]
 have t2:(kd==2)=false:=by simp [h2]
 have t3:(kd==3)=false:=by simp [h3]
 have e:(kd=1∨kd=2∨kd=3)=False:=by simp [h1,h2,h3]
 simp only [e,decide_false,if_false]
 clear h1 h2 h3 e
 have HB:Hid (Blk (w.alloc (Obj.cells (chA kd C i E j) 34)) w.heap.size 34 (chA kd C i E j)):=Blk.new _ _ _
 have SO:=LH (zG5 kd i j C E)
 rw [dF (show¬(kd=1∨kd=2∨kd=3) from by simp at t1 t2 t3;omega)] at SO
 go_enter Tryz.func55,Tryz.ntmps55
 go_upto_region 1 with fail
 have HAL:Hid (Below w.heap.size w (w.alloc (Obj.cells (chA kd C i E j) 34))):=(bR _ w).alloc (nl _) _
 generalize w.alloc (Obj.cells (chA kd C i E j) 34)=W at HB HAL⊢
 go_wp2_with (first
  |(refine wpList_load_row rfl 34 (.tmp 1) rfl _ rfl _ _ (0,0) _ HB.out Tryz.underlying34 rfl (by kernel_rfl) ?_)
  |(go_at_call 54
    with_reducible refine (SO.out _).mono ?_
    rintro e w4 ⟨rfl,hb4⟩
    have e1:=(HB.out.call hb4).cell 10
    simp only [chA,List.getElem?_toArray,List.getElem?_cons_zero,List.getElem?_cons_succ] at e1
    have HB4:=LH (zA1 HAL.out hb4)
    clear hb4))
 go_ret
 exact ⟨rfl,HB4.out⟩
set_option maxRecDepth 100000 in
set_option maxHeartbeats 8000000 in
theorem sc_name (kd:Int) (i j:Nat) (C:Nds) (E:Lks) (w:World):Calls Tryz.prog 53 #[.agg (chA kd C i E j)] w fun e w'=>e= .returned (.string (if kd=1∨kd=2∨kd=3 then C.Nm i else E.Nm j))∧Below w.heap.size w w':=by
 by_cases h1:kd=1
 ·subst h1
  have e:((1:Int)=1∨(1:Int)=2∨(1:Int)=3)=True:=by simp
  simp only [e,decide_true,if_true]
  clear e
  have HB:Hid (Blk (w.alloc (Obj.cells (chA 1 C i E j) 34)) w.heap.size 34 (chA 1 C i E j)):=Blk.new _ _ _
  have SO:=LH (zL1 1)
  simp only [show ((1:Int)=1∨(1:Int)=2∨(1:Int)=3)=True from by simp,decide_true] at SO
  go_enter Tryz.func53,Tryz.ntmps53
  go_upto_region 1 with fail
  have HAL:Hid (Below w.heap.size w (w.alloc (Obj.cells (chA 1 C i E j) 34))):=(bR _ w).alloc (nl _) _
  generalize w.alloc (Obj.cells (chA 1 C i E j) 34)=W at HB HAL⊢
  have e0:=HB.out.cell 0
  have e1:=HB.out.cell 1
  simp only [chA,List.getElem?_toArray,List.getElem?_cons_zero,List.getElem?_cons_succ] at e0 e1
  go_wp2_with (first
   |(go_at_call 52;(with_reducible refine (SO.out _).mono ?_);rintro e w' ⟨rfl,rfl⟩))
  go_ret
  exact ⟨rfl,HAL.out⟩
 by_cases h2:kd=2
 ·subst h2
  have e:((2:Int)=1∨(2:Int)=2∨(2:Int)=3)=True:=by simp
  simp only [e,decide_true,if_true]
  clear e h1
  have HB:Hid (Blk (w.alloc (Obj.cells (chA 2 C i E j) 34)) w.heap.size 34 (chA 2 C i E j)):=Blk.new _ _ _
  have SO:=LH (zL1 2)
  simp only [show ((2:Int)=1∨(2:Int)=2∨(2:Int)=3)=True from by simp,decide_true] at SO
  go_enter Tryz.func53,Tryz.ntmps53
  go_upto_region 1 with fail
  have HAL:Hid (Below w.heap.size w (w.alloc (Obj.cells (chA 2 C i E j) 34))):=(bR _ w).alloc (nl _) _
  generalize w.alloc (Obj.cells (chA 2 C i E j) 34)=W at HB HAL⊢
  have e0:=HB.out.cell 0
  have e1:=HB.out.cell 1
  simp only [chA,List.getElem?_toArray,List.getElem?_cons_zero,List.getElem?_cons_succ] at e0 e1
  go_wp2_with (first
   |(go_at_call 52;(with_reducible refine (SO.out _).mono ?_);rintro e w' ⟨rfl,rfl⟩))
  go_ret
  exact ⟨rfl,HAL.out⟩
 by_cases h3:kd=3
 ·subst h3
  have e:((3:Int)=1∨(3:Int)=2∨(3:Int)=3)=True:=by simp
  simp only [e,decide_true,if_true]
  clear e h1 h2
  have HB:Hid (Blk (w.alloc (Obj.cells (chA 3 C i E j) 34)) w.heap.size 34 (chA 3 C i E j)):=Blk.new _ _ _
  have SO:=LH (zL1 3)
  simp only [show ((3:Int)=1∨(3:Int)=2∨(3:Int)=3)=True from by simp,decide_true] at SO
  go_enter Tryz.func53,Tryz.ntmps53
  go_upto_region 1 with fail
  have HAL:Hid (Below w.heap.size w (w.alloc (Obj.cells (chA 3 C i E j) 34))):=(bR _ w).alloc (nl _) _
  generalize w.alloc (Obj.cells (chA 3 C i E j) 34)=W at HB HAL⊢
  have e0:=HB.out.cell 0
  have e1:=HB.out.cell 1
  simp only [chA,List.getElem?_toArray,List.getElem?_cons_zero,List.getElem?_cons_succ] at e0 e1
  go_wp2_with (first
   |(go_at_call 52;(with_reducible refine (SO.out _).mono ?_);rintro e w' ⟨rfl,rfl⟩))
  go_ret
  exact ⟨rfl,HAL.out⟩
 have t1:(kd==1)=false:=by simp [h1]
 have t2:(kd==2)=false:=by simp [h2]
 have t3:(kd==3)=false:=by simp [h3]
 have e:(kd=1∨kd=2∨kd=3)=False:=by simp [h1,h2,h3]
 simp only [e,decide_false,if_false]
 clear h1 h2 h3 e
 have HB:Hid (Blk (w.alloc (Obj.cells (chA kd C i E j) 34)) w.heap.size 34 (chA kd C i E j)):=Blk.new _ _ _
 have SO:=LH (zL1 kd)
 rw [dF (show¬(kd=1∨kd=2∨kd=3) from by simp at t1 t2 t3;omega)] at SO
 go_enter Tryz.func53,Tryz.ntmps53
 go_upto_region 1 with fail
 have HAL:Hid (Below w.heap.size w (w.alloc (Obj.cells (chA kd C i E j) 34))):=(bR _ w).alloc (nl _) _
 generalize w.alloc (Obj.cells (chA kd C i E j) 34)=W at HB HAL⊢
 have e0:=HB.out.cell 0
 have e1:=HB.out.cell 10
 simp only [chA,List.getElem?_toArray,List.getElem?_cons_zero,List.getElem?_cons_succ] at e0 e1
 go_wp2_with (first
  |(go_at_call 52;(with_reducible refine (SO.out _).mono ?_);rintro e w' ⟨rfl,rfl⟩))
 go_ret
 exact ⟨rfl,HAL.out⟩
set_option maxRecDepth 100000 in
set_option maxHeartbeats 8000000 in
theorem r_dropT (s:ByteArray) (w:World):Calls Tryz.prog 79 #[.bool true,.string s] w fun e w'=>e= .returned (.agg (cNm 3 s))∧Below w.heap.size w w':=by
 go_enter Tryz.func79,Tryz.ntmps79
 go_upto_region 1 with fail
 have HB:Hid (Blk (w.alloc (Obj.cells cZc 34)) w.heap.size 34 cZc):=Blk.new _ _ _
 have HAL:Hid (Below w.heap.size w (w.alloc (Obj.cells cZc 34))):=(bR _ w).alloc (nl _) _
 generalize w.alloc (Obj.cells _ 34)=W at HB HAL⊢
 go_wp2_with (first
  |(refine wpList_store_row rfl 34 (.tmp 4) (.tmp 8) rfl w.heap.size (cNm 3 s) rfl rfl _ _ HB.out (by kernel_rfl) rfl (by kernel_rfl) ?_))
 refine bodyPost_ret (v:=.agg (cNm 3 s)) (results_cell_row Tryz.results79 _ _ w.heap.size 34 (cNm 3 s) (0,0) _ (by rfl) HB.out.setRow Tryz.underlying34 rfl (by kernel_rfl)) rfl ⟨rfl,?_⟩
 exact zB4 HAL.out HB.out (nl _)
set_option maxRecDepth 100000 in
set_option maxHeartbeats 8000000 in
theorem r_dropF (s:ByteArray) (w:World):Calls Tryz.prog 79 #[.bool false,.string s] w fun e w'=>e= .returned (.agg #[.int .i64 6,.string ⟨#[]⟩,.int .i64 0,.int .i64 0,.int .i64 0,.int .i64 0,.int .i64 0,.slice none 0 0,.bool false,.int .i64 0,.string s,.string ⟨#[]⟩,.string ⟨#[]⟩,.int .i64 0,.int .i64 0,.int .i64 0,.int .i64 0,.string ⟨#[]⟩,.int .i64 0,.int .i64 0,.slice none 0 0])∧Below w.heap.size w w':=by
 go_enter Tryz.func79,Tryz.ntmps79
 go_upto_region 1 with fail
 have HB:Hid (Blk (w.alloc (Obj.cells cZc 34)) w.heap.size 34 cZc):=Blk.new _ _ _
 have HAL:Hid (Below w.heap.size w (w.alloc (Obj.cells cZc 34))):=(bR _ w).alloc (nl _) _
 generalize w.alloc (Obj.cells _ 34)=W at HB HAL⊢
 go_wp2_with (first
  |(refine wpList_store_row rfl 34 (.tmp 4) (.tmp 11) rfl w.heap.size #[.int .i64 6,.string ⟨#[]⟩,.int .i64 0,.int .i64 0,.int .i64 0,.int .i64 0,.int .i64 0,.slice none 0 0,.bool false,.int .i64 0,.string s,.string ⟨#[]⟩,.string ⟨#[]⟩,.int .i64 0,.int .i64 0,.int .i64 0,.int .i64 0,.string ⟨#[]⟩,.int .i64 0,.int .i64 0,.slice none 0 0] rfl rfl _ _ HB.out (by kernel_rfl) rfl (by kernel_rfl) ?_))
 refine bodyPost_ret (v:=.agg #[.int .i64 6,.string ⟨#[]⟩,.int .i64 0,.int .i64 0,.int .i64 0,.int .i64 0,.int .i64 0,.slice none 0 0,.bool false,.int .i64 0,.string s,.string ⟨#[]⟩,.string ⟨#[]⟩,.int .i64 0,.int .i64 0,.int .i64 0,.int .i64 0,.string ⟨#[]⟩,.int .i64 0,.int .i64 0,.slice none 0 0]) (results_cell_row Tryz.results79 _ _ w.heap.size 34 #[.int .i64 6,.string ⟨#[]⟩,.int .i64 0,.int .i64 0,.int .i64 0,.int .i64 0,.int .i64 0,.slice none 0 0,.bool false,.int .i64 0,.string s,.string ⟨#[]⟩,.string ⟨#[]⟩,.int .i64 0,.int .i64 0,.int .i64 0,.int .i64 0,.string ⟨#[]⟩,.int .i64 0,.int .i64 0,.slice none 0 0] (0,0) _ (by rfl) HB.out.setRow Tryz.underlying34 rfl (by kernel_rfl)) rfl ⟨rfl,?_⟩
 exact zB4 HAL.out HB.out (nl _)
set_option maxRecDepth 100000 in
set_option maxHeartbeats 8000000 in
theorem r_same (kd kd':Int) (i j i' j':Nat) (C C':Nds) (E E':Lks) (w:World) (h1:TabIn w (C.SA i) (C.SN i) (C.SX i) (C.SY i)) (h2:TabIn w (E.CA j) (E.CN j) (E.CX j) (E.CY j)) (h3:TabIn w (C'.SA i') (C'.SN i') (C'.SX i') (C'.SY i')) (h4:TabIn w (E'.CA j') (E'.CN j') (E'.CX j') (E'.CY j')):
 Calls Tryz.prog 16 #[.agg (chA kd C i E j),.agg (chA kd' C' i' E' j')] w fun e w'=>e= .returned (.bool (boolOf (chrR kd C i E j=chrR kd' C' i' E' j')))∧Below w.heap.size w w':=by
 have hal:Below w.heap.size w ((w.alloc (Obj.cells (chA kd C i E j) 34)).alloc (Obj.cells (chA kd' C' i' E' j') 34)):=((bR _ w).alloc (nl _) _).alloc (by simp) _
 have HX1:Hid (Blk ((w.alloc (Obj.cells (chA kd C i E j) 34)).alloc (Obj.cells (chA kd' C' i' E' j') 34)) w.heap.size 34 (chA kd C i E j)):=(Blk.new _ _ _).alloc _
 have HX2:Hid (Blk ((w.alloc (Obj.cells (chA kd C i E j) 34)).alloc (Obj.cells (chA kd' C' i' E' j') 34)) (w.heap.size+1) 34 (chA kd' C' i' E' j')):=by have h:=Blk.new (w.alloc (Obj.cells (chA kd C i E j) 34)) 34 (chA kd' C' i' E' j');rw [zB0] at h;exact h
 have HAL:=LH hal
 obtain ⟨P,hP⟩:∃P,boolOf (zA7 C i=zA7 C' i')=P:=⟨_,rfl⟩
 obtain ⟨Q,hQ⟩:∃Q,boolOf (zA5 E j=zA5 E' j')=Q:=⟨_,rfl⟩
 have S1:Hid (∀w',Below w.heap.size w w'→Calls Tryz.prog 49 #[.agg (ndA C i),.agg (ndA C' i')] w' fun e w''=>e= .returned (.bool P)∧Below w'.heap.size w' w''):=fun w' hb=>by rw [←hP];exact same_r C C' i i' w' (h1.below (nl _) hb) (h3.below (nl _) hb)
 have S2:Hid (∀w',Below w.heap.size w w'→Calls Tryz.prog 50 #[.agg (lkA E j),.agg (lkA E' j')] w' fun e w''=>e= .returned (.bool Q)∧Below w'.heap.size w' w''):=fun w' hb=>by rw [←hQ];exact same_k E E' j j' w' (h2.below (nl _) hb) (h4.below (nl _) hb)
 unfold ndA at S1
 unfold lkA at S2
 have hval:boolOf (chrR kd C i E j=chrR kd' C' i' E' j')=(decide (kd=kd')&&P&&Q):=by
  rw [←hP,←hQ]
  refine (zI3 ?_).symm
  unfold chrR
  rw [Chr.mk.injEq,Bool.and_eq_true,Bool.and_eq_true,decide_eq_true_eq,zG4,zG4,and_assoc]
 rw [hval]
 by_cases hk:kd=kd'
 ·subst hk
  rw [dU (rfl:kd=kd),Bool.true_and]
  clear hP hQ hval h1 h2 h3 h4 hal
  cases P<;> cases Q
  all_goals
   go_enter Tryz.func16,Tryz.ntmps16
   go_upto_region 1 with fail
   generalize (w.alloc (Obj.cells (chA kd C i E j) 34)).alloc (Obj.cells (chA kd C' i' E' j') 34)=W at HX1 HX2 HAL⊢
   obtain ⟨x0,x1,x2,x3,x4,x5,x6,x7,x8⟩:=chgN HX1.out
   obtain ⟨y0,y1,y2,y3,y4,y5,y6,y7,y8⟩:=chgN HX2.out
   have x:=HX1.out.cell 0
   have y:=HX2.out.cell 0
   simp only [chA,List.getElem?_toArray,List.getElem?_cons_zero,List.getElem?_cons_succ] at x y
   go_wp2_with (first
        |(go_at_call 49
          with_reducible refine (S1.out _ HAL.out).mono ?_
          rintro e w4 ⟨rfl,hb4⟩
          obtain ⟨x10,x11,x12,x13,x14,x15,x16,x17,x18,x19,x20⟩:=chgL (HX1.out.call hb4)
          obtain ⟨y10,y11,y12,y13,y14,y15,y16,y17,y18,y19,y20⟩:=chgL (HX2.out.call hb4)
          have HB4:=LH (zA1 HAL.out hb4)
          clear hb4)
        |(go_at_call 50
          with_reducible refine (S2.out _ HB4.out).mono ?_
          rintro e w5 ⟨rfl,hb5⟩
          have HB5:=LH (zA1 HB4.out hb5)
          clear hb5))
   go_ret
   exact ⟨rfl,by first |exact HB5.out |exact HB4.out⟩
 ·rw [dF hk]
  have t:(kd==kd')=false:=by simp [hk]
  clear hP hQ hval h1 h2 h3 h4 hal hk
  go_enter Tryz.func16,Tryz.ntmps16
  go_upto_region 1 with fail
  generalize (w.alloc (Obj.cells (chA kd C i E j) 34)).alloc (Obj.cells (chA kd' C' i' E' j') 34)=W at HX1 HX2 HAL⊢
  have x:=HX1.out.cell 0
  have y:=HX2.out.cell 0
  simp only [chA,List.getElem?_toArray,List.getElem?_cons_zero,List.getElem?_cons_succ] at x y
  go_wp2_with fail
  go_ret
  exact ⟨rfl,HAL.out⟩
theorem nc_take (M:List Ndm):∀i,nc (M.take i)=(nc M).take (i*9):=by
 induction M with
 |nil=>intro i;simp [nc]
 |cons p M ih=>
  intro i
  cases i with
  |zero=>simp [nc]
  |succ i=>
   have e:nc (p::M)=ncm p++nc M:=by simp [nc]
   have e2:nc ((p::M).take (i+1))=ncm p++nc (M.take i):=by simp [nc]
   have hl:(ncm p).length=9:=rfl
   rw [e,e2,ih,List.take_append,List.take_of_length_le (show (ncm p).length≤(i+1)*9 by rw [hl];omega),hl,show (i+1)*9 - 9=i*9 by omega]
theorem nc_drop (M:List Ndm):∀i,nc (M.drop i)=(nc M).drop (i*9):=by
 induction M with
 |nil=>intro i;simp [nc]
 |cons p M ih=>
  intro i
  cases i with
  |zero=>simp
  |succ i=>
   have e:nc (p::M)=ncm p++nc M:=by simp [nc]
   have hl:(ncm p).length=9:=rfl
   rw [List.drop_succ_cons,ih,e,List.drop_append,List.drop_eq_nil_of_le (show (ncm p).length≤(i+1)*9 by rw [hl];omega),List.nil_append,hl,show (i+1)*9 - 9=i*9 by omega]
theorem nc_cell (M:List Ndm):∀u∈nc M,u.oneCell'=true:=by
 intro u hu
 unfold nc at hu
 rw [List.mem_flatMap] at hu
 obtain ⟨p,_,hu⟩:=hu
 unfold ncm ncs at hu
 simp at hu
 rcases hu with rfl |rfl |rfl |rfl |rfl |rfl |rfl |rfl |rfl<;> rfl
theorem nd_cells {w:World} {b off:Nat} {M:List Ndm} (h:NdIn w (some ⟨b,off,none⟩) M.length (ndsM M)):∀j u,(nc M)[j]?=some u→w.cell? ⟨b,off+j,none⟩=some u:=by
 intro j u hj
 have hlen:j<(nc M).length:=by
  rcases Nat.lt_or_ge j (nc M).length with g |g
  ·exact g
  ·rw [List.getElem?_eq_none g] at hj;cases hj
 rw [nc_len] at hlen
 have hk:j / 9<M.length:=by omega
 obtain ⟨b',off',e,_,hC,_⟩:=h.at hk
 cases e
 rw [zT8 M (j / 9) hk] at hC
 have hk2:M[j / 9]?=some (M.getD (j / 9) ⟨zNd,none,0⟩):=by simp [List.getD,hk]
 have h1:=zK4 ncm 9 (fun _=>rfl) M (j / 9) (j % 9) _ hk2 (by omega)
 have e1:j / 9*9+j % 9=j:=by omega
 rw [e1] at h1
 have h2:(nc M)[j]?=(ncm (M.getD (j / 9) ⟨zNd,none,0⟩))[j % 9]?:=h1
 rw [hj] at h2
 have:=hC (j % 9) u h2.symm
 rw [←this,show off+j / 9*9+j % 9=off+j by omega]
theorem nd_news_take {w:World} {b off i:Nat} {M:List Ndm} (h:NdIn w (some ⟨b,off,none⟩) M.length (ndsM M)):∀j u,(nc (M.take i))[j]?=some u→w.cell? ((⟨b,off,none⟩:Addr).add j)=some u:=by
 intro j u hj
 rw [nc_take,List.getElem?_take] at hj
 split at hj
 ·rw [kaddr];exact nd_cells h j u hj
 ·cases hj
theorem nd_news_drop {w:World} {b off i:Nat} {M:List Ndm} (h:NdIn w (some ⟨b,off,none⟩) M.length (ndsM M)):∀j u,(nc (M.drop i))[j]?=some u→w.cell? ((⟨b,off+i*9,none⟩:Addr).add j)=some u:=by
 intro j u hj
 rw [nc_drop,List.getElem?_drop] at hj
 rw [kaddr,show off+i*9+j=off+(i*9+j) by omega]
 exact nd_cells h _ u hj
theorem zR4 {P:Program} (w:World) (g o:Nat) (ty t:TypeId) (cur cells:Array Value) (hg:w.heap[g]?=some (.cells cur t (0,0))) (hl:o+cells.size≤cur.size) (hi:(P.info? ty).map (·.size)=some cells.size) (h1:∀v∈cells.toList,v.oneCell'=true):
 (storeVar ty ⟨g,o,none⟩ (.agg cells)).run P w= .ok () (w.setRow g (cur.toList.take o++cells.toList++cur.toList.drop (o+cells.size)).toArray):=by
 have:=run_storeCells_at (P:=P) g o t cells.toList 0 cur w hg (by simpa using hl) h1
 cases hq:P.info? ty with
 |none=>simp [hq] at hi
 |some i=>
  have hs:cells.size=i.size:=by simp [hq] at hi;omega
  simp only [Nat.add_zero] at this
  simp [storeVar,sizeOf,typeInfo,hq,Value.cells,hs,this]
theorem zK5 {P:Program} {ops:Array Oper} {rest:List Oper} {op:Oper} {a:Act} {w:World} {Q:Exit→Act→World→Prop} (hgd:op.guard=none) (ty:TypeId) (x y:Operand) (ho:op.op= .store ty x y)
 (B s g n cap i:Nat) (e:TypeId) (M:List (List Value)) (cells:Array Value) (hx:a.eval x= .pointer (some ⟨g,i*s,none⟩)) (hy:a.eval y= .agg cells)
 (hM:RowsS s M) (hn:M.length=n) (hi:i<n) (hc:cells.size=s) (h1:∀v∈cells.toList,v.oneCell'=true) (hinf:(P.info? ty).map (·.size)=some s) (hown:w.ownsRow B e s (.slice (some ⟨g,0,none⟩) n cap) n M.flatten)
 (h:∀w',w'.ownsRow B e s (.slice (some ⟨g,0,none⟩) n cap) n (M.set i cells.toList).flatten→w.grownBy w' (some g)→wpList P ops Q rest (a.put op.dst undef) w'):wpList P ops Q (op::rest) a w:=by
 obtain ⟨cur,hB,hg,hnc,hcm,hcs,hct⟩:=zL5 hown
 have hns:n*s≤cap*s:=Nat.mul_le_mul_right _ hnc
 have his:i*s+s≤n*s:=by rw [←Nat.succ_mul];exact Nat.mul_le_mul_right _ hi
 have hr:=zR4 (P:=P) w g (i*s) ty e cur cells hg (by rw [hc,hcs];omega) (by rw [hc];exact hinf) h1
 have hz1:(cur.toList.take (i*s)++cells.toList++cur.toList.drop (i*s+cells.size)).toArray.size=cap*s:=by
  rw [List.size_toArray,List.length_append,List.length_append,List.length_take,List.length_drop,Array.length_toList,hcs,Array.length_toList,hc];omega
 have ht1:(cur.toList.take (i*s)++cells.toList++cur.toList.drop (i*s+cells.size)).toArray.toList.take (n*s)=(M.set i cells.toList).flatten:=by
  have:=zY9 (i:=i) (r:=cells.toList) hM (by rw [Array.length_toList];exact hc) hn hi hct (by rw [Array.length_toList,hcs];exact hns)
  rwa [Array.length_toList] at this
 have hlx:(M.set i cells.toList).flatten.length=n*s:=by
  rw [←ht1,List.length_take,Array.length_toList,hz1];omega
 obtain ⟨h2,h3⟩:=zE4 (n:=n) hB hg hnc hcm hz1 ht1 hlx
 refine wpList_plain hgd fun _ hK=>?_
 unfold Oper.wp execOp
 simp only [ho,hx,hy,Instr.storeAt,Instr.sureAddr,Sem.run_bind,Sem.run_pure,Result.andThen_ok,hr]
 exact hK _ _ (h _ h2 h3)
theorem CpR.aft {B g0 i:Nat} {W W8:World} {NM:List Ndm} {LM:List Lkm} {vn vl x:Value} {row:Option Nat} (h:CpR B NM LM vn vl W) (hg:W.grownBy W8 row) (hrow:row=vn.ownBlock∨row=vl.ownBlock) (h0:g0<B):
 (∀p,p∈NM→TabIn (W8.setCell ⟨g0,i,none⟩ x) p.A p.x.T.length (kX p.x.T) (kY p.x.T))∧(∀p,p∈LM→TabIn (W8.setCell ⟨g0,i,none⟩ x) p.A p.x.T.length (kX p.x.T) (kY p.x.T)):=by
 have hs:=zG1 W8 g0 i x
 refine ⟨fun p hp=>?_,fun p hp=>?_⟩
 ·have ht:=h.tn p hp
  refine (ht.1.grown hg fun hn b off e=>?_).grown hs fun hn b off e e2=>?_
  ·rcases hrow with q |q
   ·rw [q];exact (ht.2 hn b off e).2.1
   ·rw [q];exact (ht.2 hn b off e).2.2
  ·have:=(ht.2 hn b off e).1;have:=Option.some.inj e2;omega
 ·have ht:=h.tl p hp
  refine (ht.1.grown hg fun hn b off e=>?_).grown hs fun hn b off e e2=>?_
  ·rcases hrow with q |q
   ·rw [q];exact (ht.2 hn b off e).2.1
   ·rw [q];exact (ht.2 hn b off e).2.2
  ·have:=(ht.2 hn b off e).1;have:=Option.some.inj e2;omega
theorem CpR.aft0 {B:Nat} {W W8:World} {NM:List Ndm} {LM:List Lkm} {vn vl:Value} {row:Option Nat} (h:CpR B NM LM vn vl W) (hg:W.grownBy W8 row) (hrow:row=vn.ownBlock∨row=vl.ownBlock):
 (∀p,p∈NM→TabIn W8 p.A p.x.T.length (kX p.x.T) (kY p.x.T))∧(∀p,p∈LM→TabIn W8 p.A p.x.T.length (kX p.x.T) (kY p.x.T)):=by
 refine ⟨fun p hp=>?_,fun p hp=>?_⟩
 ·have ht:=h.tn p hp
  refine ht.1.grown hg fun hn b off e=>?_
  rcases hrow with q |q
  ·rw [q];exact (ht.2 hn b off e).2.1
  ·rw [q];exact (ht.2 hn b off e).2.2
 ·have ht:=h.tl p hp
  refine ht.1.grown hg fun hn b off e=>?_
  rcases hrow with q |q
  ·rw [q];exact (ht.2 hn b off e).2.1
  ·rw [q];exact (ht.2 hn b off e).2.2
theorem own_oth0 {W W8:World} {B n m s s':Nat} {e e':TypeId} {u v:Value} {xs ys:List Value} (h:W.ownsRow B e s u n xs) (h':W.ownsRow B e' s' v m ys) (hne:e≠e') (hg:W.grownBy W8 v.ownBlock):W8.ownsRow B e s u n xs:=by
 refine h.kept hg ?_
 rcases zR2 h h' hne with q |q
 ·exact .inl q
 ·exact .inr q
theorem zX1 {W:World} {B n c:Nat} {A:Option Addr} {NM:List Ndm} (hn:NM.length=n) (hon:W.ownsRow B 30 9 (.slice A n c) n (nc NM)) (ht:∀p,p∈NM→TabIn W p.A p.x.T.length (kX p.x.T) (kY p.x.T)) (h2:n≤300000):NdIn W A n (ndsM NM):=by
 subst hn
 exact (zI5 (B:=0) (rn:=none) (rl:=none) (zB7 hon (Nat.zero_le _)) (fun p hp=>⟨ht p hp,fun _ b _ _=>⟨Nat.zero_le _,by simp,by simp⟩⟩) h2).2
theorem zX3 {W:World} {B n c:Nat} {A:Option Addr} {LM:List Lkm} (hn:LM.length=n) (hon:W.ownsRow B 32 11 (.slice A n c) n (lc LM)) (ht:∀p,p∈LM→TabIn W p.A p.x.T.length (kX p.x.T) (kY p.x.T)) (h2:n≤300000):LkIn W A n (lksM LM):=by
 subst hn
 exact (zG6 (B:=0) (rn:=none) (rl:=none) (zB7 hon (Nat.zero_le _)) (fun p hp=>⟨ht p hp,fun _ b _ _=>⟨Nat.zero_le _,by simp,by simp⟩⟩) h2).2
theorem zL8 {NM:List Ndm} {n:Nat} (hn:NM.length=n):recN (ndsM NM) n=ndx NM:=by subst hn;exact zS3 NM
theorem zM0 {LM:List Lkm} {n:Nat} (hn:LM.length=n):recL (lksM LM) n=lkx LM:=by subst hn;exact zS5 LM
theorem zQ2 {NM:List Ndm} {D:Nds} {n:Nat} (h:ndx NM=recN D n):NM.length=n:=by have:=congrArg List.length h;rw [zA3] at this;simpa [ndx] using this
theorem zQ3 {LM:List Lkm} {D:Lks} {n:Nat} (h:lkx LM=recL D n):LM.length=n:=by have:=congrArg List.length h;rw [zA4] at this;simpa [lkx] using this
theorem own_oth {W W8:World} {B n m s s' g0 i:Nat} {e e':TypeId} {u v x:Value} {xs ys:List Value} (h:W.ownsRow B e s u n xs) (h':W.ownsRow B e' s' v m ys) (hne:e≠e') (hg:W.grownBy W8 v.ownBlock) (h0:g0<B):(W8.setCell ⟨g0,i,none⟩ x).ownsRow B e s u n xs:=by
 refine zA6 (h.kept hg ?_) h0
 rcases zR2 h h' hne with q |q
 ·exact .inl q
 ·exact .inr q
theorem zS6 {LM:List Lkm} {K:Lks} {m q:Nat} (h:lkx LM=recL K m) (hq:q<m):(lksM LM).Fr q=K.Fr q∧(lksM LM).To q=K.To q:=by
 show ((lkx LM).getD q zLk).fr=_∧((lkx LM).getD q zLk).tn=_
 rw [h,zP8 hq]
 exact ⟨rfl,rfl⟩
theorem str_ne {a b:ByteArray} (h:a≠b):(a.toList==b.toList)=false:=by
 have t:¬a.toList=b.toList:=fun e=>h (zC1 e)
 simp [t]
end Go.Proofs.YtchakniaoeodmaaGreatDoor

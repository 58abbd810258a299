/- Merged texts of these proofs: SrDa, SrD, SrAl. -/
import Derived.Test.YtchakniaoeodmaaGreatDoorMgAp
import Derived.Test.YtchakniaoeodmaaGreatDoorNetW
import Derived.Deep.MidRow
namespace Go.Proofs.YtchakniaoeodmaaGreatDoor
open Go.RowKit
set_option linter.unusedVariables false
set_option linter.unusedSimpArgs false
set_option maxRecDepth 100000 in
set_option maxHeartbeats 8000000 in
theorem r_hasLink (NA LA:Option Addr) (n nc0 m lc0:Nat) (N:List Ndr) (K E:Lks) (j:Nat) (w:World) (h2:m≤2000) (hv:VS N (recL K m)) (hK:LkIn w LA m K) (hj:TabIn w (E.CA j) (E.CN j) (E.CX j) (E.CY j)):
 Calls Tryz.prog 84 #[.agg #[.slice NA n nc0,.slice LA m lc0],.agg (cLk E j)] w fun e w'=>e= .returned (.bool (boolOf (zA5 E j∈recL K m)))∧Below w.heap.size w w':=by
 have HK:=LH hK
 have HJ:=LH hj
 have HAL:Hid (Below w.heap.size w ((w.alloc (Obj.cells #[.slice NA n nc0,.slice LA m lc0] 52)).alloc (Obj.cells (cLk E j) 32))):=((bR _ w).alloc (nl _) _).alloc (by simp) _
 have HN:Hid (Blk ((w.alloc (Obj.cells #[.slice NA n nc0,.slice LA m lc0] 52)).alloc (Obj.cells (cLk E j) 32)) w.heap.size 52 #[.slice NA n nc0,.slice LA m lc0]):=(Blk.new _ _ _).alloc _
 have HL:Hid (Blk ((w.alloc (Obj.cells #[.slice NA n nc0,.slice LA m lc0] 52)).alloc (Obj.cells (cLk E j) 32)) (w.heap.size+1) 32 (cLk E j)):=by have h:=Blk.new (w.alloc (Obj.cells #[.slice NA n nc0,.slice LA m lc0] 52)) 32 (cLk E j);rw [zB0] at h;exact h
 have SF:Hid (∀w',Below w.heap.size w w'→Calls Tryz.prog 72 #[.agg #[.slice NA n nc0,.slice LA m lc0],.string (E.Nm j)] w' fun e w''=>e= .returned (.int .i64 (fnd K.Nm m (E.Nm j)))∧Below w'.heap.size w' w''):=fun w' hb=>zL4 NA LA n nc0 m lc0 K (E.Nm j) w' h2 (zB1 HK.out hb)
 rcases zC4 K.Nm m (E.Nm j) with ⟨hf,hno⟩|⟨k,hk,hf,hnm,_⟩
 ·rw [hf] at SF
  rw [zA0 (show¬zA5 E j∈recL K m from fun h=>by
   obtain ⟨i,hi,e⟩:=mem_recL.1 h
   exact hno i hi (congrArg Lkr.nm e))]
  clear h2 hv hK hj hf hno
  go_enter Tryz.func84,Tryz.ntmps84
  go_upto_region 1 with fail
  generalize (w.alloc (Obj.cells #[.slice NA n nc0,.slice LA m lc0] 52)).alloc (Obj.cells (cLk E j) 32)=W at HAL HN HL⊢
  obtain ⟨d0,d1⟩:=blk2 HN.out
  have q0:=HL.out.cell 0
  simp only [List.getElem?_toArray,List.getElem?_cons_zero,List.getElem?_cons_succ] at q0
  go_upto_region 2 with (first
   |(go_at_call 72
     with_reducible refine (SF.out _ HAL.out).mono ?_
     rintro e w4 ⟨rfl,hb4⟩
     have HB4:=LH (zA1 HAL.out hb4)
     clear hb4))
  have HB5:=LH (zA1 HB4.out (bR w4.heap.size w4).drew)
  go_region
  all_goals
   go_wp2_with fail
   go_ret
   exact ⟨rfl,HB5.out⟩
 ·rw [hf] at SF
  have hmem:zA5 K k=zA5 E j↔zA5 E j∈recL K m:=by
   have h:=at_lm (N:=N) (L:=recL K m) hv (x:=zA5 E j) (k:=k) (by rw [zA4];exact hk) (by rw [zP8 hk];exact hnm)
   rw [zP8 hk] at h
   exact h
  obtain ⟨V,hV⟩:∃V,boolOf (zA5 E j∈recL K m)=V:=⟨_,rfl⟩
  obtain ⟨b,off,hA,hb,hC,htab⟩:=HK.out.at hk
  subst hA
  have SS:Hid (∀w',Below w.heap.size w w'→Calls Tryz.prog 50 #[.agg (cLk K k),.agg (cLk E j)] w' fun e w''=>e= .returned (.bool V)∧Below w'.heap.size w' w''):=fun w' hb=>by
   have h:=same_k K E k j w' (htab.below (nl _) hb) (HJ.out.below (nl _) hb)
   rw [show boolOf (zA5 K k=zA5 E j)=V from (congrArg boolOf (propext hmem)).trans hV] at h
   exact h
  rw [hV]
  have HC:=LH hC
  have HBB:=LH hb
  have kk0:(0:Int)≤(k:Int):=by omega
  have kk1:(k:Int)<(m:Int):=by omega
  have tk:decide ((0:Int)≤(k:Int))=true:=dU (by omega)
  clear h2 hv hK hj hf hnm hmem hV hC htab hb
  go_enter Tryz.func84,Tryz.ntmps84
  go_upto_region 1 with fail
  generalize (w.alloc (Obj.cells #[.slice NA n nc0,.slice (some ⟨b,off,none⟩) m lc0] 52)).alloc (Obj.cells (cLk E j) 32)=W at HAL HN HL⊢
  obtain ⟨d0,d1⟩:=blk2 HN.out
  have q0:=HL.out.cell 0
  simp only [List.getElem?_toArray,List.getElem?_cons_zero,List.getElem?_cons_succ] at q0
  go_upto_region 2 with (first
   |(go_at_call 72
     with_reducible refine (SF.out _ HAL.out).mono ?_
     rintro e w4 ⟨rfl,hb4⟩
     have HN:=LH (HN.out.call hb4)
     have HL:=LH (HL.out.call hb4)
     have HB4:=LH (zA1 HAL.out hb4)
     clear hb4))
  clear d0 d1 q0
  have HS:Hid (∀w',Below w4.heap.size w4 w'→w'.cell? ⟨w.heap.size,1,none⟩=some (.slice (some ⟨b,off,none⟩) m lc0)∧w'.cell? ⟨b,off+k*11,none⟩=some (.string (K.Nm k))∧w'.cell? ⟨b,off+k*11+1,none⟩=some (.string (K.Fr k))∧w'.cell? ⟨b,off+k*11+2,none⟩=some (.string (K.To k))∧w'.cell? ⟨b,off+k*11+3,none⟩=some (.int .i64 (K.Kd k))∧w'.cell? ⟨b,off+k*11+4,none⟩=some (.int .i64 (K.Ln k))∧w'.cell? ⟨b,off+k*11+5,none⟩=some (.int .i64 (K.Up k))∧w'.cell? ⟨b,off+k*11+6,none⟩=some (.int .i64 (K.Dn k))∧w'.cell? ⟨b,off+k*11+7,none⟩=some (.string (K.Sc k))∧w'.cell? ⟨b,off+k*11+8,none⟩=some (.int .i64 (K.Wd k))∧w'.cell? ⟨b,off+k*11+9,none⟩=some (.int .i64 (K.Ht k))∧w'.cell? ⟨b,off+k*11+10,none⟩=some (.slice (K.CA k) (K.CN k) (K.CC k))∧w'.cell? ⟨w.heap.size+1,0,none⟩=some (.string (E.Nm j))∧w'.cell? ⟨w.heap.size+1,1,none⟩=some (.string (E.Fr j))∧w'.cell? ⟨w.heap.size+1,2,none⟩=some (.string (E.To j))∧w'.cell? ⟨w.heap.size+1,3,none⟩=some (.int .i64 (E.Kd j))∧w'.cell? ⟨w.heap.size+1,4,none⟩=some (.int .i64 (E.Ln j))∧w'.cell? ⟨w.heap.size+1,5,none⟩=some (.int .i64 (E.Up j))∧w'.cell? ⟨w.heap.size+1,6,none⟩=some (.int .i64 (E.Dn j))∧w'.cell? ⟨w.heap.size+1,7,none⟩=some (.string (E.Sc j))∧w'.cell? ⟨w.heap.size+1,8,none⟩=some (.int .i64 (E.Wd j))∧w'.cell? ⟨w.heap.size+1,9,none⟩=some (.int .i64 (E.Ht j))∧w'.cell? ⟨w.heap.size+1,10,none⟩=some (.slice (E.CA j) (E.CN j) (E.CC j))):=fun w' hb=>by
   have hc:CellsAt w' b (off+k*11) (K.vals k):=HC.out.below (zA1 HB4.out hb) HBB.out
   obtain ⟨y0,y1,y2,y3,y4,y5,y6,y7,y8,y9,y10⟩:=zC5 (HL.out.call hb)
   exact ⟨(HN.out.call hb).cell 1,hc 0 _ rfl,hc 1 _ rfl,hc 2 _ rfl,hc 3 _ rfl,hc 4 _ rfl,hc 5 _ rfl,hc 6 _ rfl,hc 7 _ rfl,hc 8 _ rfl,hc 9 _ rfl,hc 10 _ rfl,y0,y1,y2,y3,y4,y5,y6,y7,y8,y9,y10⟩
  go_region_held3 (fun w'=>w'.cell? ⟨w.heap.size,1,none⟩=some (.slice (some ⟨b,off,none⟩) m lc0)∧w'.cell? ⟨b,off+k*11,none⟩=some (.string (K.Nm k))∧w'.cell? ⟨b,off+k*11+1,none⟩=some (.string (K.Fr k))∧w'.cell? ⟨b,off+k*11+2,none⟩=some (.string (K.To k))∧w'.cell? ⟨b,off+k*11+3,none⟩=some (.int .i64 (K.Kd k))∧w'.cell? ⟨b,off+k*11+4,none⟩=some (.int .i64 (K.Ln k))∧w'.cell? ⟨b,off+k*11+5,none⟩=some (.int .i64 (K.Up k))∧w'.cell? ⟨b,off+k*11+6,none⟩=some (.int .i64 (K.Dn k))∧w'.cell? ⟨b,off+k*11+7,none⟩=some (.string (K.Sc k))∧w'.cell? ⟨b,off+k*11+8,none⟩=some (.int .i64 (K.Wd k))∧w'.cell? ⟨b,off+k*11+9,none⟩=some (.int .i64 (K.Ht k))∧w'.cell? ⟨b,off+k*11+10,none⟩=some (.slice (K.CA k) (K.CN k) (K.CC k))∧w'.cell? ⟨w.heap.size+1,0,none⟩=some (.string (E.Nm j))∧w'.cell? ⟨w.heap.size+1,1,none⟩=some (.string (E.Fr j))∧w'.cell? ⟨w.heap.size+1,2,none⟩=some (.string (E.To j))∧w'.cell? ⟨w.heap.size+1,3,none⟩=some (.int .i64 (E.Kd j))∧w'.cell? ⟨w.heap.size+1,4,none⟩=some (.int .i64 (E.Ln j))∧w'.cell? ⟨w.heap.size+1,5,none⟩=some (.int .i64 (E.Up j))∧w'.cell? ⟨w.heap.size+1,6,none⟩=some (.int .i64 (E.Dn j))∧w'.cell? ⟨w.heap.size+1,7,none⟩=some (.string (E.Sc j))∧w'.cell? ⟨w.heap.size+1,8,none⟩=some (.int .i64 (E.Wd j))∧w'.cell? ⟨w.heap.size+1,9,none⟩=some (.int .i64 (E.Ht j))∧w'.cell? ⟨w.heap.size+1,10,none⟩=some (.slice (E.CA j) (E.CN j) (E.CC j))) (first
   |exact HS.out _ hq6
   |exact HS.out _ (bR w4.heap.size w4).drew) (first
   |(go_at_call 50
     with_reducible refine (SS.out _ ?_).mono ?_
     focus (exact zA1 HB4.out (bR w4.heap.size w4).drew)
     rintro e w6 ⟨rfl,hb6⟩
     have hq6:Below w4.heap.size w4 w6:=(bR w4.heap.size w4).drew.trans hb6
     have HB6:=LH (zA1 HB4.out hq6)
     clear hb6))
  all_goals
   go_wp2_with fail
   go_ret
   exact ⟨rfl,HB6.out⟩
set_option maxRecDepth 100000 in
set_option maxHeartbeats 32000000 in
theorem r_Diff (NA LA NB LB:Option Addr) (n nc0 m lc0 n' nc1 m' lc1:Nat) (D D':Nds) (K K':Lks) (w:World) (hv:VS (recN D n) (recL K m)) (hv':VS (recN D' n') (recL K' m')) (hD:NdIn w NA n D) (hK:LkIn w LA m K) (hD':NdIn w NB n' D') (hK':LkIn w LB m' K'):
 Calls Tryz.prog 41 #[.agg #[.slice NA n nc0,.slice LA m lc0],.agg #[.slice NB n' nc1,.slice LB m' lc1]] w fun e w'=>∃u,e= .returned u∧ChPost (dfF (recN D n) (recL K m) (recN D' n') (recL K' m')) w u w':=by
 have hz:=hv.zz
 have hz':=hv'.zz
 have HV:=LH hv
 have HV':=LH hv'
 have HLN:Hid (n≤300∧m≤400∧n'≤300∧m'≤400):=⟨by have:=hv.n300;rwa [zA3] at this,by have:=hv.l400;rwa [zA4] at this,by have:=hv'.n300;rwa [zA3] at this,by have:=hv'.l400;rwa [zA4] at this⟩
 have SCa:Hid (∀w',Below w.heap.size w w'→Calls Tryz.prog 35 #[.agg #[.slice NA n nc0,.slice LA m lc0]] w' fun e w''=>∃u,e= .returned u∧CpPost (recN D n) (recL K m) w' u w''):=fun w' hb=>zO3 NA LA n nc0 m lc0 D K w' hz.n2 hz.m2 hz.sn hz.cn (zB3 hD hb) (zB1 hK hb)
 have SCb:Hid (∀w',Below w.heap.size w w'→Calls Tryz.prog 35 #[.agg #[.slice NB n' nc1,.slice LB m' lc1]] w' fun e w''=>∃u,e= .returned u∧CpPost (recN D' n') (recL K' m') w' u w''):=fun w' hb=>zO3 NB LB n' nc1 m' lc1 D' K' w' hz'.n2 hz'.m2 hz'.sn hz'.cn (zB3 hD' hb) (zB1 hK' hb)
 have HAL:Hid (Below w.heap.size w ((w.alloc (Obj.cells #[.slice NA n nc0,.slice LA m lc0] 52)).alloc (Obj.cells #[.slice NB n' nc1,.slice LB m' lc1] 52))):=((bR _ w).alloc (nl _) _).alloc (by simp) _
 have HXA:Hid (Blk ((w.alloc (Obj.cells #[.slice NA n nc0,.slice LA m lc0] 52)).alloc (Obj.cells #[.slice NB n' nc1,.slice LB m' lc1] 52)) w.heap.size 52 #[.slice NA n nc0,.slice LA m lc0]):=(Blk.new _ _ _).alloc _
 have HXB:Hid (Blk ((w.alloc (Obj.cells #[.slice NA n nc0,.slice LA m lc0] 52)).alloc (Obj.cells #[.slice NB n' nc1,.slice LB m' lc1] 52)) (w.heap.size+1) 52 #[.slice NB n' nc1,.slice LB m' lc1]):=by have h:=Blk.new (w.alloc (Obj.cells #[.slice NA n nc0,.slice LA m lc0] 52)) 52 #[.slice NB n' nc1,.slice LB m' lc1];rw [zB0] at h;exact h
 clear hv hv' hz hz' hD hK hD' hK'
 go_enter Tryz.func41,Tryz.ntmps41
 go_upto_region 1 with fail
 generalize (w.alloc (Obj.cells #[.slice NA n nc0,.slice LA m lc0] 52)).alloc (Obj.cells #[.slice NB n' nc1,.slice LB m' lc1] 52)=w3 at HAL HXA HXB⊢
 obtain ⟨d0,d1⟩:=blk2 HXA.out
 obtain ⟨e0,e1⟩:=blk2 HXB.out
 clear d0 d1 e0 e1
 go_cut [] from 12 to 16 (fun wx=>∃(A1 B1 A2 B2:Option Addr) (c1 d1 c2 d2:Nat) (Da:Nds) (Ka:Lks) (Db:Nds) (Kb:Lks),Hid (DfW w (recN D n) (recL K m) (recN D' n') (recL K' m') n m n' m' A1 B1 A2 B2 c1 d1 c2 d2 Da Ka Db Kb wx))
 case first=>
  obtain ⟨d0,d1⟩:=blk2 HXA.out
  obtain ⟨e0,e1⟩:=blk2 HXB.out
  have f0:=HXA.out.frozen 0
  have f1:=HXA.out.frozen 1
  have g0:=HXB.out.frozen 0
  have g1:=HXB.out.frozen 1
  have hdr:Below w3.heap.size w3 w3.drew:=(bR w3.heap.size w3).drew
  go_region_law (first
   |(go_simp
     go_at_call 35
     with_reducible refine (SCa.out _ ?_).mono ?_
     focus (exact zA1 HAL.out hdr)
     rintro e w4 ⟨u,rfl,NM,LM,A1,B1,c1,d1',q1,q2,rfl,hr,hb⟩
     rw [zA3] at hr
     rw [zA4] at hr
     rw [zA3,zA4]
     have hq4:Below w3.heap.size w3 w4:=hdr.trans hb
     have HXA4:=LH (HXA.out.call hq4)
     have HXB4:=LH (HXB.out.call hq4)
     have HCR4:=LH hr
     have HQ1:=LH q1
     have HQ2:=LH q2
     obtain ⟨p0,p1⟩:=blk2 HXB4.out
     clear hr q1 q2 hb)
   |(go_simp
     go_at_call 35
     with_reducible refine (SCb.out _ ?_).mono ?_
     focus (exact zA1 HAL.out hq4)
     rintro e w5 ⟨u,rfl,NM2,LM2,A2,B2,c2,d2,q3,q4,rfl,hr,hb⟩
     rw [zA3] at hr
     rw [zA4] at hr
     rw [zA3,zA4]
     have hq5:Below w3.heap.size w3 w5:=zA1 hq4 hb
     have HXA5:=LH (HXA4.out.call hb)
     have HXB5:=LH (HXB4.out.call hb)
     have HCR5:=LH (HCR4.out.call hb)
     have HCS5:=LH (hr.lower hq4.size)
     have HQ3:=LH q3
     have HQ4:=LH q4
     have HSZ:=LH hb.size
     obtain ⟨x0,x1⟩:=blk2 HXA5.out
     obtain ⟨y0,y1⟩:=blk2 HXB5.out
     have f0:=HXA5.out.frozen 0
     have f1:=HXA5.out.frozen 1
     have g0:=HXB5.out.frozen 0
     have g1:=HXB5.out.frozen 1
     clear hr q3 q4 hb))
  all_goals
   have ha:w.heap.size<w3.heap.size:=HXA.out.lt
   have hb':w.heap.size+1<w3.heap.size:=HXB.out.lt
   have R1:Hid (CpR w3.heap.size NM LM (.slice A1 n c1) (.slice B1 m d1') ((((w5.setCell ⟨w.heap.size,0,none⟩ (.slice A1 n c1)).setCell ⟨w.heap.size,1,none⟩ (.slice B1 m d1')).setCell ⟨w.heap.size+1,0,none⟩ (.slice A2 n' c2)).setCell ⟨w.heap.size+1,1,none⟩ (.slice B2 m' d2))):=(((HCR5.out.low ha 0 _).low ha 1 _).low hb' 0 _).low hb' 1 _
   have R2:Hid (CpR w3.heap.size NM2 LM2 (.slice A2 n' c2) (.slice B2 m' d2) ((((w5.setCell ⟨w.heap.size,0,none⟩ (.slice A1 n c1)).setCell ⟨w.heap.size,1,none⟩ (.slice B1 m d1')).setCell ⟨w.heap.size+1,0,none⟩ (.slice A2 n' c2)).setCell ⟨w.heap.size+1,1,none⟩ (.slice B2 m' d2))):=(((HCS5.out.low ha 0 _).low ha 1 _).low hb' 0 _).low hb' 1 _
   have XA:Hid (Blk ((((w5.setCell ⟨w.heap.size,0,none⟩ (.slice A1 n c1)).setCell ⟨w.heap.size,1,none⟩ (.slice B1 m d1')).setCell ⟨w.heap.size+1,0,none⟩ (.slice A2 n' c2)).setCell ⟨w.heap.size+1,1,none⟩ (.slice B2 m' d2)) w.heap.size 52 #[.slice A1 n c1,.slice B1 m d1']):=(((HXA5.out.set_ 0 _).set_ 1 _).far (p:=⟨w.heap.size+1,0,none⟩) (by show w.heap.size≠w.heap.size+1;omega) _).far (p:=⟨w.heap.size+1,1,none⟩) (by show w.heap.size≠w.heap.size+1;omega) _
   have XB:Hid (Blk ((((w5.setCell ⟨w.heap.size,0,none⟩ (.slice A1 n c1)).setCell ⟨w.heap.size,1,none⟩ (.slice B1 m d1')).setCell ⟨w.heap.size+1,0,none⟩ (.slice A2 n' c2)).setCell ⟨w.heap.size+1,1,none⟩ (.slice B2 m' d2)) (w.heap.size+1) 52 #[.slice A2 n' c2,.slice B2 m' d2]):=(((HXB5.out.far (p:=⟨w.heap.size,0,none⟩) (by show w.heap.size+1≠w.heap.size;omega) _).far (p:=⟨w.heap.size,1,none⟩) (by show w.heap.size+1≠w.heap.size;omega) _).set_ 0 _).set_ 1 _
   have BL:Hid (Below w.heap.size w ((((w5.setCell ⟨w.heap.size,0,none⟩ (.slice A1 n c1)).setCell ⟨w.heap.size,1,none⟩ (.slice B1 m d1')).setCell ⟨w.heap.size+1,0,none⟩ (.slice A2 n' c2)).setCell ⟨w.heap.size+1,1,none⟩ (.slice B2 m' d2))):=((((zA1 HAL.out hq5).setCell (p:=⟨w.heap.size,0,none⟩) (nl _) _).setCell (p:=⟨w.heap.size,1,none⟩) (nl _) _).setCell (p:=⟨w.heap.size+1,0,none⟩) (by show w.heap.size≤w.heap.size+1;omega) _).setCell (p:=⟨w.heap.size+1,1,none⟩) (by show w.heap.size≤w.heap.size+1;omega) _
   have hl:=HLN.out
   go_wp2_with fail
   go_meet
   exact ⟨A1,B1,A2,B2,c1,d1',c2,d2,ndsM NM,lksM LM,ndsM NM2,lksM LM2,DfW.make HQ1.out HQ2.out HQ3.out HQ4.out (zA3 _ _) (zA4 _ _) (zA3 _ _) (zA4 _ _) (by omega) (by omega) (by omega) (by omega) R1.out R2.out XA.out XB.out BL.out⟩
 case rest=>
 rename World=>w0
 obtain ⟨A1,B1,A2,B2,c1,d1,c2,d2,Da,Ka,Db,Kb,HDW⟩:=hcut
 clear HAL HXA HXB SCa SCb 
 obtain ⟨d0,d1_⟩:=blk2 HDW.out.xa
 obtain ⟨e0,e1_⟩:=blk2 HDW.out.xb
 have HM0:=LH (DfI.start w0)
 go_wp2_with fail
 go_loopw [5,6] (fun u v wr=>∃(i:Nat) (M:List Chm) (A:Option Addr) (c:Nat),Hid (i≤m)∧v= .int .i64 i∧u= .slice A M.length c∧Hid (DfI w0 wr (.slice A M.length c) M (ds1 Ka (recL Kb m') i))) (fun _ v _=>m - (RowKit.intOf v).toNat)
 case atStart=>exact ⟨0,[],none,0,Nat.zero_le _,rfl,rfl,HM0⟩
 case round=>
  clear HM0 d0 d1_ e0 e1_
  rename World=>wr
  obtain ⟨i,M,A,cp,Hi,rfl,rfl,HM⟩:=hrel
  obtain ⟨d0,d1_⟩:=blk2 (HDW.out.xa.call HM.out.bel)
  obtain ⟨e0,e1_⟩:=blk2 (HDW.out.xb.call HM.out.bel)
  by_cases hlt:i<m
  case pos=>
   have T0:decide ((i:Int)<(m:Int))=true:=by simp<;> omega
   have T0':decide (i<m)=true:=dU hlt
   obtain ⟨i',hi'⟩:∃z,z=i+1:=⟨_,rfl⟩
   have x0:IntKind.i64.wrap ((i:Int)+1)=(i':Int):=by have:=HLN.out;rw [IntKind.wrap_i64];omega
   have k0:(0:Int)≤(i:Int):=by omega
   have k1:(i:Int)<(m:Int):=by omega
   have HMS:Hid (m - (RowKit.intOf (Value.int .i64 (i':Int))).toNat<m - (RowKit.intOf (Value.int .i64 (i:Int))).toNat):=by show _<_;simp [RowKit.intOf];omega
   have HI':Hid (i'≤m∧i'=i+1):=⟨by omega,hi'⟩
   have HLL:Hid (M.length≤20000):=HM.out.small (by (try simp only [List.length_append]);have:=HLN.out;have:=zJ1 Ka (recL Kb m') i;omega)
   obtain ⟨b,off,hA,hb,hC,htab⟩:=HDW.out.ka.at hlt
   subst hA
   have HC:Hid (∀w',Below w0.heap.size w0 w'→CellsAt w' b (off+i*11) (Ka.vals i)):=fun w' h=>hC.below h hb
   have HTB:=LH htab
   have SH:Hid (∀w',Below w0.heap.size w0 w'→Calls Tryz.prog 84 #[.agg #[.slice A2 n' c2,.slice B2 m' d2],.agg (cLk Ka i)] w' fun e w''=>e= .returned (.bool (boolOf (zA5 Ka i∈recL Kb m')))∧Below w'.heap.size w' w''):=fun w' hb=>r_hasLink _ _ n' c2 m' d2 (recN Db n') Kb Ka i w' (by have:=HLN.out;omega) (by rw [HDW.out.rb,HDW.out.lb];exact HV'.out) (HDW.out.kb.below (nl _) hb) (htab.below (nl _) hb)
   have SDr:=LH (r_dropF (Ka.Nm i))
   have HS:Hid (∀w',Below w0.heap.size w0 w'→w'.cell? ⟨w.heap.size+1,0,none⟩=some (.slice A2 n' c2)∧w'.cell? ⟨w.heap.size+1,1,none⟩=some (.slice B2 m' d2)∧w'.cell? ⟨w.heap.size,1,none⟩=some (.slice (some ⟨b,off,none⟩) m d1)∧w'.cell? ⟨b,off+i*11,none⟩=some (.string (Ka.Nm i))∧w'.cell? ⟨b,off+i*11+1,none⟩=some (.string (Ka.Fr i))∧w'.cell? ⟨b,off+i*11+2,none⟩=some (.string (Ka.To i))∧w'.cell? ⟨b,off+i*11+3,none⟩=some (.int .i64 (Ka.Kd i))∧w'.cell? ⟨b,off+i*11+4,none⟩=some (.int .i64 (Ka.Ln i))∧w'.cell? ⟨b,off+i*11+5,none⟩=some (.int .i64 (Ka.Up i))∧w'.cell? ⟨b,off+i*11+6,none⟩=some (.int .i64 (Ka.Dn i))∧w'.cell? ⟨b,off+i*11+7,none⟩=some (.string (Ka.Sc i))∧w'.cell? ⟨b,off+i*11+8,none⟩=some (.int .i64 (Ka.Wd i))∧w'.cell? ⟨b,off+i*11+9,none⟩=some (.int .i64 (Ka.Ht i))∧w'.cell? ⟨b,off+i*11+10,none⟩=some (.slice (Ka.CA i) (Ka.CN i) (Ka.CC i))):=fun w' hb=>by
        have hc:=HC.out w' hb
        exact ⟨(HDW.out.xb.call hb).cell 0,(HDW.out.xb.call hb).cell 1,(HDW.out.xa.call hb).cell 1,hc 0 _ rfl,hc 1 _ rfl,hc 2 _ rfl,hc 3 _ rfl,hc 4 _ rfl,hc 5 _ rfl,hc 6 _ rfl,hc 7 _ rfl,hc 8 _ rfl,hc 9 _ rfl,hc 10 _ rfl⟩
   clear hi' hb hC htab
   go_upto_region 6 with fail
   clear d0 d1_ e0 e1_
   by_cases hp:zA5 Ka i∈recL Kb m'
   ·rw [zA2 hp] at SH
    have hpp:¬dpL (recL Kb m') (zA5 Ka i):=fun h=>h hp
    have HEQ:Hid (ds1 Ka (recL Kb m') i=ds1 Ka (recL Kb m') i'):=by show _=_;rw [HI'.out.2];exact (zK7 hpp).symm
    clear hp hpp
    go_region_held3 (fun w'=>w'.cell? ⟨w.heap.size+1,0,none⟩=some (.slice A2 n' c2)∧w'.cell? ⟨w.heap.size+1,1,none⟩=some (.slice B2 m' d2)∧w'.cell? ⟨w.heap.size,1,none⟩=some (.slice (some ⟨b,off,none⟩) m d1)∧w'.cell? ⟨b,off+i*11,none⟩=some (.string (Ka.Nm i))∧w'.cell? ⟨b,off+i*11+1,none⟩=some (.string (Ka.Fr i))∧w'.cell? ⟨b,off+i*11+2,none⟩=some (.string (Ka.To i))∧w'.cell? ⟨b,off+i*11+3,none⟩=some (.int .i64 (Ka.Kd i))∧w'.cell? ⟨b,off+i*11+4,none⟩=some (.int .i64 (Ka.Ln i))∧w'.cell? ⟨b,off+i*11+5,none⟩=some (.int .i64 (Ka.Up i))∧w'.cell? ⟨b,off+i*11+6,none⟩=some (.int .i64 (Ka.Dn i))∧w'.cell? ⟨b,off+i*11+7,none⟩=some (.string (Ka.Sc i))∧w'.cell? ⟨b,off+i*11+8,none⟩=some (.int .i64 (Ka.Wd i))∧w'.cell? ⟨b,off+i*11+9,none⟩=some (.int .i64 (Ka.Ht i))∧w'.cell? ⟨b,off+i*11+10,none⟩=some (.slice (Ka.CA i) (Ka.CN i) (Ka.CC i))) (first
     |exact HS.out _ HM5.out.bel
     |exact HS.out _ HM.out.bel.drew) (first
     |(go_at_call 84
       with_reducible refine (SH.out _ ?_).mono ?_
       focus (exact HM.out.bel.drew)
       rintro e w5 ⟨rfl,hb5⟩
       have hq5:Below wr.heap.size wr w5:=(bR wr.heap.size wr).drew.trans hb5
       have HM5:=LH (HM.out.call hq5)
       clear hb5 hq5))
    all_goals
     go_wp2_with fail
     go_roundw
     case rel=>exact ⟨i',M,A,cp,HI'.out.1,rfl,rfl,HM5.out.to HEQ.out⟩
     case measure=>exact HMS.out
   ·rw [zA0 hp] at SH
    have hpp:dpL (recL Kb m') (zA5 Ka i):=hp
    have HEQ:Hid (ds1 Ka (recL Kb m') i++[chrR 6 (dqN ⟨#[]⟩) 0 (dqL (Ka.Nm i)) 0]=ds1 Ka (recL Kb m') i'):=by show _=_;rw [HI'.out.2];exact (zJ2 hpp).symm
    clear hp hpp
    go_region_held3 (fun w'=>w'.cell? ⟨w.heap.size+1,0,none⟩=some (.slice A2 n' c2)∧w'.cell? ⟨w.heap.size+1,1,none⟩=some (.slice B2 m' d2)∧w'.cell? ⟨w.heap.size,1,none⟩=some (.slice (some ⟨b,off,none⟩) m d1)∧w'.cell? ⟨b,off+i*11,none⟩=some (.string (Ka.Nm i))∧w'.cell? ⟨b,off+i*11+1,none⟩=some (.string (Ka.Fr i))∧w'.cell? ⟨b,off+i*11+2,none⟩=some (.string (Ka.To i))∧w'.cell? ⟨b,off+i*11+3,none⟩=some (.int .i64 (Ka.Kd i))∧w'.cell? ⟨b,off+i*11+4,none⟩=some (.int .i64 (Ka.Ln i))∧w'.cell? ⟨b,off+i*11+5,none⟩=some (.int .i64 (Ka.Up i))∧w'.cell? ⟨b,off+i*11+6,none⟩=some (.int .i64 (Ka.Dn i))∧w'.cell? ⟨b,off+i*11+7,none⟩=some (.string (Ka.Sc i))∧w'.cell? ⟨b,off+i*11+8,none⟩=some (.int .i64 (Ka.Wd i))∧w'.cell? ⟨b,off+i*11+9,none⟩=some (.int .i64 (Ka.Ht i))∧w'.cell? ⟨b,off+i*11+10,none⟩=some (.slice (Ka.CA i) (Ka.CN i) (Ka.CC i))) (first
     |exact HS.out _ HM5.out.bel
     |exact HS.out _ HM.out.bel.drew) (first
     |(go_at_call 84
       with_reducible refine (SH.out _ ?_).mono ?_
       focus (exact HM.out.bel.drew)
       rintro e w5 ⟨rfl,hb5⟩
       have hq5:Below wr.heap.size wr w5:=(bR wr.heap.size wr).drew.trans hb5
       have HM5:=LH (HM.out.call hq5)
       clear hb5 hq5))
    all_goals
     obtain ⟨d0,d1_⟩:=blk2 (HDW.out.xa.call HM5.out.bel)
     obtain ⟨e0,e1_⟩:=blk2 (HDW.out.xb.call HM5.out.bel)
     have q0:=HC.out _ HM5.out.bel 0 _ rfl
     simp only [Nat.add_zero] at q0
     go_wp2_with (first
        |(go_at_call 79
          with_reducible refine (SDr.out _).mono ?_
          rintro e w7 ⟨rfl,hb7⟩
          have HM7:=LH (HM5.out.call hb7)
          have hal8:Below w7.heap.size w7 (w7.alloc (Obj.cells #[.int .i64 6,.string ⟨#[]⟩,.int .i64 0,.int .i64 0,.int .i64 0,.int .i64 0,.int .i64 0,.slice none 0 0,.bool false,.int .i64 0,.string (Ka.Nm i),.string ⟨#[]⟩,.string ⟨#[]⟩,.int .i64 0,.int .i64 0,.int .i64 0,.int .i64 0,.string ⟨#[]⟩,.int .i64 0,.int .i64 0,.slice none 0 0] 34)):=(bR _ w7).alloc (nl _) _
          have HM8:=LH (HM7.out.call hal8)
          have HX8:Hid (Blk (w7.alloc (Obj.cells #[.int .i64 6,.string ⟨#[]⟩,.int .i64 0,.int .i64 0,.int .i64 0,.int .i64 0,.int .i64 0,.slice none 0 0,.bool false,.int .i64 0,.string (Ka.Nm i),.string ⟨#[]⟩,.string ⟨#[]⟩,.int .i64 0,.int .i64 0,.int .i64 0,.int .i64 0,.string ⟨#[]⟩,.int .i64 0,.int .i64 0,.slice none 0 0] 34)) w7.heap.size 34 (chm (chD 6 (dqN ⟨#[]⟩) 0 (dqL (Ka.Nm i)) 0)).toArray):=by rw [zE7];exact Blk.new _ _ _
          clear hal8
          clear hb7)
        |(at_builtin
          refine zB6 rfl (.tmp 31) (.tmp 39) rfl w0.heap.size (.slice A M.length cp) M rfl HM8.out.own w7.heap.size (chD 6 (dqN ⟨#[]⟩) 0 (dqL (Ka.Nm i)) 0) rfl HX8.out HLL.out w0 HM8.out.bel (nl _) ?_
          intro A9 c9 w9 ho9 hb9 _ _
          have HM9:=LH (HM8.out.app ho9 hb9 (zB9 _ _ _) (zB9 _ _ _))
          clear ho9 hb9))
     go_roundw
     case rel=>exact ⟨i',M++[chD 6 (dqN ⟨#[]⟩) 0 (dqL (Ka.Nm i)) 0],A9,c9,HI'.out.1,rfl,by rw [List.length_append,List.length_singleton],HM9.out.to HEQ.out⟩
     case measure=>exact HMS.out
  have T0:decide ((i:Int)<(m:Int))=false:=by simp<;> omega
  have T0':decide (i<m)=false:=dF hlt
  have e:i=m:=by have:=Hi.out;omega
  have HM0:Hid (DfI w0 wr (.slice A M.length cp) M (ds1 Ka (recL Kb m') m)):=by have h:=HM.out;rw [e] at h;exact h
  clear hlt e HM Hi
  go_wp2_with fail
  go_loopw [5,7] (fun u v wr=>∃(i:Nat) (M:List Chm) (A:Option Addr) (c:Nat),Hid (i≤n)∧v= .int .i64 i∧u= .slice A M.length c∧Hid (DfI w0 wr (.slice A M.length c) M (ds1 Ka (recL Kb m') m++ds2 Da (recN Db n') i))) (fun _ v _=>n - (RowKit.intOf v).toNat)
  case atStart=>exact ⟨0,M,A,cp,Nat.zero_le _,rfl,rfl,HM0.out.to (by show _=_++[];rw [List.append_nil])⟩
  case round=>
   clear HM0 d0 d1_ e0 e1_
   rename World=>wr
   obtain ⟨i,M,A,cp,Hi,rfl,rfl,HM⟩:=hrel
   obtain ⟨d0,d1_⟩:=blk2 (HDW.out.xa.call HM.out.bel)
   obtain ⟨e0,e1_⟩:=blk2 (HDW.out.xb.call HM.out.bel)
   by_cases hlt:i<n
   case pos=>
        have T0:decide ((i:Int)<(n:Int))=true:=by simp<;> omega
        have T0':decide (i<n)=true:=dU hlt
        obtain ⟨i',hi'⟩:∃z,z=i+1:=⟨_,rfl⟩
        have x0:IntKind.i64.wrap ((i:Int)+1)=(i':Int):=by have:=HLN.out;rw [IntKind.wrap_i64];omega
        have k0:(0:Int)≤(i:Int):=by omega
        have k1:(i:Int)<(n:Int):=by omega
        have HMS:Hid (n - (RowKit.intOf (Value.int .i64 (i':Int))).toNat<n - (RowKit.intOf (Value.int .i64 (i:Int))).toNat):=by show _<_;simp [RowKit.intOf];omega
        have HI':Hid (i'≤n∧i'=i+1):=⟨by omega,hi'⟩
        have HLL:Hid (M.length≤20000):=HM.out.small (by (try simp only [List.length_append]);have:=HLN.out;have:=zJ1 Ka (recL Kb m') m;have:=zM3 Da (recN Db n') i;omega)
        obtain ⟨b,off,hA,hb,hC,htab⟩:=HDW.out.na.at hlt
        subst hA
        have HC:Hid (∀w',Below w0.heap.size w0 w'→CellsAt w' b (off+i*9) (Da.vals i)):=fun w' h=>hC.below h hb
        have HTB:=LH htab
        have SH:Hid (∀w',Below w0.heap.size w0 w'→Calls Tryz.prog 71 #[.agg #[.slice A2 n' c2,.slice B2 m' d2],.string (Da.Nm i)] w' fun e w''=>e= .returned (.int .i64 (fnd Db.Nm n' (Da.Nm i)))∧Below w'.heap.size w' w''):=fun w' hb=>zN6 _ _ n' c2 m' d2 Db _ w' (by have:=HLN.out;omega) (HDW.out.nb.below (nl _) hb)
        have SDr:=LH (r_dropT (Da.Nm i))
        have HS:Hid (∀w',Below w0.heap.size w0 w'→w'.cell? ⟨w.heap.size+1,0,none⟩=some (.slice A2 n' c2)∧w'.cell? ⟨w.heap.size+1,1,none⟩=some (.slice B2 m' d2)∧w'.cell? ⟨w.heap.size,0,none⟩=some (.slice (some ⟨b,off,none⟩) n c1)∧w'.cell? ⟨b,off+i*9,none⟩=some (.string (Da.Nm i))):=fun w' hb=>by
         have hc:=HC.out w' hb
         exact ⟨(HDW.out.xb.call hb).cell 0,(HDW.out.xb.call hb).cell 1,(HDW.out.xa.call hb).cell 0,hc 0 _ rfl⟩
        clear hi' hb hC htab
        go_upto_region 11 with fail
        clear d0 d1_ e0 e1_
        rcases zC4 Db.Nm n' (Da.Nm i) with ⟨hf,_⟩|⟨k,_,hf,_,_⟩
        ·rw [hf] at SH
         have hpp:dpD (recN Db n') (zA7 Da i):=zE2 hf
         have HEQ:Hid (ds1 Ka (recL Kb m') m++ds2 Da (recN Db n') i++[chrR 3 (dqN (Da.Nm i)) 0 (dqL ⟨#[]⟩) 0]=ds1 Ka (recL Kb m') m++ds2 Da (recN Db n') i'):=by show _=_;rw [HI'.out.2];show _=_++dfs _ _ _ (i+1);rw [zJ2 hpp,←List.append_assoc];rfl
         clear hf hpp
         go_region_held3 (fun w'=>w'.cell? ⟨w.heap.size+1,0,none⟩=some (.slice A2 n' c2)∧w'.cell? ⟨w.heap.size+1,1,none⟩=some (.slice B2 m' d2)∧w'.cell? ⟨w.heap.size,0,none⟩=some (.slice (some ⟨b,off,none⟩) n c1)∧w'.cell? ⟨b,off+i*9,none⟩=some (.string (Da.Nm i))) (first
          |exact HS.out _ HM5.out.bel
          |exact HS.out _ HM.out.bel.drew) (first
          |(go_at_call 71
            with_reducible refine (SH.out _ ?_).mono ?_
            focus (exact HM.out.bel.drew)
            rintro e w5 ⟨rfl,hb5⟩
            have hq5:Below wr.heap.size wr w5:=(bR wr.heap.size wr).drew.trans hb5
            have HM5:=LH (HM.out.call hq5)
            clear hb5 hq5))
         all_goals
          obtain ⟨d0,d1_⟩:=blk2 (HDW.out.xa.call HM5.out.bel)
          obtain ⟨e0,e1_⟩:=blk2 (HDW.out.xb.call HM5.out.bel)
          have q0:=HC.out _ HM5.out.bel 0 _ rfl
          simp only [Nat.add_zero] at q0
          go_wp2_with (first
             |(go_at_call 79
               with_reducible refine (SDr.out _).mono ?_
               rintro e w7 ⟨rfl,hb7⟩
               have HM7:=LH (HM5.out.call hb7)
               have hal8:Below w7.heap.size w7 (w7.alloc (Obj.cells (cNm 3 (Da.Nm i)) 34)):=(bR _ w7).alloc (nl _) _
               have HM8:=LH (HM7.out.call hal8)
               have HX8:Hid (Blk (w7.alloc (Obj.cells (cNm 3 (Da.Nm i)) 34)) w7.heap.size 34 (chm (chD 3 (dqN (Da.Nm i)) 0 (dqL ⟨#[]⟩) 0)).toArray):=by rw [zE7];exact Blk.new _ _ _
               clear hal8
               clear hb7)
             |(at_builtin
               refine zB6 rfl (.tmp 57) (.tmp 65) rfl w0.heap.size (.slice A M.length cp) M rfl HM8.out.own w7.heap.size (chD 3 (dqN (Da.Nm i)) 0 (dqL ⟨#[]⟩) 0) rfl HX8.out HLL.out w0 HM8.out.bel (nl _) ?_
               intro A9 c9 w9 ho9 hb9 _ _
               have HM9:=LH (HM8.out.app ho9 hb9 (zB9 _ _ _) (zB9 _ _ _))
               clear ho9 hb9))
          go_roundw
          case rel=>exact ⟨i',M++[chD 3 (dqN (Da.Nm i)) 0 (dqL ⟨#[]⟩) 0],A9,c9,HI'.out.1,rfl,by rw [List.length_append,List.length_singleton],HM9.out.to HEQ.out⟩
          case measure=>exact HMS.out
        ·rw [hf] at SH
         have hpp:¬dpD (recN Db n') (zA7 Da i):=fun h=>h (zE1 hf)
         have tk:decide ((k:Int)<0)=false:=dF (by omega)
         have HEQ:Hid (ds1 Ka (recL Kb m') m++ds2 Da (recN Db n') i=ds1 Ka (recL Kb m') m++ds2 Da (recN Db n') i'):=by show _=_;rw [HI'.out.2];show _=_++dfs _ _ _ (i+1);rw [zK7 hpp];rfl
         clear hf hpp
         go_region_held3 (fun w'=>w'.cell? ⟨w.heap.size+1,0,none⟩=some (.slice A2 n' c2)∧w'.cell? ⟨w.heap.size+1,1,none⟩=some (.slice B2 m' d2)∧w'.cell? ⟨w.heap.size,0,none⟩=some (.slice (some ⟨b,off,none⟩) n c1)∧w'.cell? ⟨b,off+i*9,none⟩=some (.string (Da.Nm i))) (first
          |exact HS.out _ HM5.out.bel
          |exact HS.out _ HM.out.bel.drew) (first
          |(go_at_call 71
            with_reducible refine (SH.out _ ?_).mono ?_
            focus (exact HM.out.bel.drew)
            rintro e w5 ⟨rfl,hb5⟩
            have hq5:Below wr.heap.size wr w5:=(bR wr.heap.size wr).drew.trans hb5
            have HM5:=LH (HM.out.call hq5)
            clear hb5 hq5))
         all_goals
          go_wp2_with fail
          go_roundw
          case rel=>exact ⟨i',M,A,cp,HI'.out.1,rfl,rfl,HM5.out.to HEQ.out⟩
          case measure=>exact HMS.out
   have T0:decide ((i:Int)<(n:Int))=false:=by simp<;> omega
   have T0':decide (i<n)=false:=dF hlt
   have e:i=n:=by have:=Hi.out;omega
   have HM0:Hid (DfI w0 wr (.slice A M.length cp) M (ds1 Ka (recL Kb m') m++ds2 Da (recN Db n') n)):=by have h:=HM.out;rw [e] at h;exact h
   clear hlt e HM Hi
   go_wp2_with fail
   go_loopw [5,8] (fun u v wr=>∃(i:Nat) (M:List Chm) (A:Option Addr) (c:Nat),Hid (i≤n')∧v= .int .i64 i∧u= .slice A M.length c∧Hid (DfI w0 wr (.slice A M.length c) M (ds1 Ka (recL Kb m') m++ds2 Da (recN Db n') n++ds3 Db (recN Da n) i))) (fun _ v _=>n' - (RowKit.intOf v).toNat)
   case atStart=>exact ⟨0,M,A,cp,Nat.zero_le _,rfl,rfl,HM0.out.to (by show _=_++[];rw [List.append_nil])⟩
   case round=>
        clear HM0 d0 d1_ e0 e1_
        rename World=>wr
        obtain ⟨i,M,A,cp,Hi,rfl,rfl,HM⟩:=hrel
        obtain ⟨d0,d1_⟩:=blk2 (HDW.out.xa.call HM.out.bel)
        obtain ⟨e0,e1_⟩:=blk2 (HDW.out.xb.call HM.out.bel)
        by_cases hlt:i<n'
        case pos=>
         have T0:decide ((i:Int)<(n':Int))=true:=by simp<;> omega
         have T0':decide (i<n')=true:=dU hlt
         obtain ⟨i',hi'⟩:∃z,z=i+1:=⟨_,rfl⟩
         have x0:IntKind.i64.wrap ((i:Int)+1)=(i':Int):=by have:=HLN.out;rw [IntKind.wrap_i64];omega
         have k0:(0:Int)≤(i:Int):=by omega
         have k1:(i:Int)<(n':Int):=by omega
         have HMS:Hid (n' - (RowKit.intOf (Value.int .i64 (i':Int))).toNat<n' - (RowKit.intOf (Value.int .i64 (i:Int))).toNat):=by show _<_;simp [RowKit.intOf];omega
         have HI':Hid (i'≤n'∧i'=i+1):=⟨by omega,hi'⟩
         have HLL:Hid (M.length≤20000):=HM.out.small (by (try simp only [List.length_append]);have:=HLN.out;have:=zJ1 Ka (recL Kb m') m;have:=zM3 Da (recN Db n') n;have:=zQ7 Db (recN Da n) i;omega)
         obtain ⟨b,off,hA,hb,hC,htab⟩:=HDW.out.nb.at hlt
         subst hA
         have HC:Hid (∀w',Below w0.heap.size w0 w'→CellsAt w' b (off+i*9) (Db.vals i)):=fun w' h=>hC.below h hb
         have HTB:=LH htab
         have SH:Hid (∀w',Below w0.heap.size w0 w'→Calls Tryz.prog 71 #[.agg #[.slice A1 n c1,.slice B1 m d1],.string (Db.Nm i)] w' fun e w''=>e= .returned (.int .i64 (fnd Da.Nm n (Db.Nm i)))∧Below w'.heap.size w' w''):=fun w' hb=>zN6 _ _ n c1 m d1 Da _ w' (by have:=HLN.out;omega) (HDW.out.na.below (nl _) hb)
         have HS:Hid (∀w',Below w0.heap.size w0 w'→w'.cell? ⟨w.heap.size,0,none⟩=some (.slice A1 n c1)∧w'.cell? ⟨w.heap.size,1,none⟩=some (.slice B1 m d1)∧w'.cell? ⟨w.heap.size+1,0,none⟩=some (.slice (some ⟨b,off,none⟩) n' c2)∧w'.cell? ⟨b,off+i*9,none⟩=some (.string (Db.Nm i))):=fun w' hb=>by
          have hc:=HC.out w' hb
          exact ⟨(HDW.out.xa.call hb).cell 0,(HDW.out.xa.call hb).cell 1,(HDW.out.xb.call hb).cell 0,hc 0 _ rfl⟩
         clear hi' hb hC htab
         go_upto_region 16 with fail
         clear d0 d1_ e0 e1_
         rcases zC4 Da.Nm n (Db.Nm i) with ⟨hf,_⟩|⟨k,hk,hf,hnm,_⟩
         ·rw [hf] at SH
          have hpp:¬dpS (recN Da n) (zA7 Db i):=fun h=>zE2 hf h.1
          have HEQ:Hid (ds1 Ka (recL Kb m') m++ds2 Da (recN Db n') n++ds3 Db (recN Da n) i=ds1 Ka (recL Kb m') m++ds2 Da (recN Db n') n++ds3 Db (recN Da n) i'):=by show _=_;rw [HI'.out.2];show _=_++dfs _ _ _ (i+1);rw [zK7 hpp];rfl
          clear hf hpp
          go_region_held3 (fun w'=>w'.cell? ⟨w.heap.size,0,none⟩=some (.slice A1 n c1)∧w'.cell? ⟨w.heap.size,1,none⟩=some (.slice B1 m d1)∧w'.cell? ⟨w.heap.size+1,0,none⟩=some (.slice (some ⟨b,off,none⟩) n' c2)∧w'.cell? ⟨b,off+i*9,none⟩=some (.string (Db.Nm i))) (first
           |exact HS.out _ HM5.out.bel
           |exact HS.out _ HM.out.bel.drew) (first
           |(go_at_call 71
             with_reducible refine (SH.out _ ?_).mono ?_
             focus (exact HM.out.bel.drew)
             rintro e w5 ⟨rfl,hb5⟩
             have hq5:Below wr.heap.size wr w5:=(bR wr.heap.size wr).drew.trans hb5
             have HM5:=LH (HM.out.call hq5)
             clear hb5 hq5))
          all_goals
           go_upto_region 17 with fail
           have HM6:=LH (HM5.out.call (bR w5.heap.size w5).drew)
           go_region
           all_goals
              go_wp2_with fail
              go_roundw
              case rel=>exact ⟨i',M,A,cp,HI'.out.1,rfl,rfl,HM6.out.to HEQ.out⟩
              case measure=>exact HMS.out
         ·rw [hf] at SH
          have HHN:Hid (hasN (recN Da n) (zA7 Db i).nm):=zE1 hf
          have kk0:(0:Int)≤(k:Int):=by omega
          have kk1:(k:Int)<(n:Int):=by omega
          have tk:decide ((0:Int)≤(k:Int))=true:=dU (by omega)
          have HAT:Hid (zA7 Da k=zA7 Db i↔zA7 Db i∈recN Da n):=by
           have h:=at_nm (N:=recN Da n) (L:=recL Ka m) (by rw [HDW.out.ra,HDW.out.la];exact HV.out) (x:=zA7 Db i) (k:=k) (by rw [zA3];exact hk) (by rw [zO1 hk];exact hnm)
           rw [zO1 hk] at h
           exact h
          obtain ⟨ba,offa,hAa,hba,hCa,htaba⟩:=HDW.out.na.at hk
          subst hAa
          have HTA:=LH htaba
          have HCA:Hid (∀w',Below w0.heap.size w0 w'→CellsAt w' ba (offa+k*9) (Da.vals k)):=fun w' h=>hCa.below h hba
          clear hf hnm hk htaba hCa hba
          have HS9:Hid (∀w',Below w0.heap.size w0 w'→w'.cell? ⟨w.heap.size,0,none⟩=some (.slice (some ⟨ba,offa,none⟩) n c1)∧w'.cell? ⟨w.heap.size+1,0,none⟩=some (.slice (some ⟨b,off,none⟩) n' c2)∧w'.cell? ⟨ba,offa+k*9,none⟩=some (.string (Da.Nm k))∧w'.cell? ⟨ba,offa+k*9+1,none⟩=some (.int .i64 (Da.Kd k))∧w'.cell? ⟨ba,offa+k*9+2,none⟩=some (.int .i64 (Da.Ax k))∧w'.cell? ⟨ba,offa+k*9+3,none⟩=some (.int .i64 (Da.Ay k))∧w'.cell? ⟨ba,offa+k*9+4,none⟩=some (.int .i64 (Da.Iv k))∧w'.cell? ⟨ba,offa+k*9+5,none⟩=some (.int .i64 (Da.Gd k))∧w'.cell? ⟨ba,offa+k*9+6,none⟩=some (.slice (Da.SA k) (Da.SN k) (Da.SC k))∧w'.cell? ⟨ba,offa+k*9+7,none⟩=some (.bool (Da.Pt k))∧w'.cell? ⟨ba,offa+k*9+8,none⟩=some (.int .i64 (Da.Rs k))∧w'.cell? ⟨b,off+i*9,none⟩=some (.string (Db.Nm i))∧w'.cell? ⟨b,off+i*9+1,none⟩=some (.int .i64 (Db.Kd i))∧w'.cell? ⟨b,off+i*9+2,none⟩=some (.int .i64 (Db.Ax i))∧w'.cell? ⟨b,off+i*9+3,none⟩=some (.int .i64 (Db.Ay i))∧w'.cell? ⟨b,off+i*9+4,none⟩=some (.int .i64 (Db.Iv i))∧w'.cell? ⟨b,off+i*9+5,none⟩=some (.int .i64 (Db.Gd i))∧w'.cell? ⟨b,off+i*9+6,none⟩=some (.slice (Db.SA i) (Db.SN i) (Db.SC i))∧w'.cell? ⟨b,off+i*9+7,none⟩=some (.bool (Db.Pt i))∧w'.cell? ⟨b,off+i*9+8,none⟩=some (.int .i64 (Db.Rs i))):=fun w' hb=>by
           have hc:=HCA.out w' hb
           have he:=HC.out w' hb
           exact ⟨(HDW.out.xa.call hb).cell 0,(HDW.out.xb.call hb).cell 0,hc 0 _ rfl,hc 1 _ rfl,hc 2 _ rfl,hc 3 _ rfl,hc 4 _ rfl,hc 5 _ rfl,hc 6 _ rfl,hc 7 _ rfl,hc 8 _ rfl,he 0 _ rfl,he 1 _ rfl,he 2 _ rfl,he 3 _ rfl,he 4 _ rfl,he 5 _ rfl,he 6 _ rfl,he 7 _ rfl,he 8 _ rfl⟩
          by_cases hq:zA7 Da k=zA7 Db i
          ·have hpp:¬dpS (recN Da n) (zA7 Db i):=fun h=>h.2 (HAT.out.1 hq)
           have HEQ:Hid (ds1 Ka (recL Kb m') m++ds2 Da (recN Db n') n++ds3 Db (recN Da n) i=ds1 Ka (recL Kb m') m++ds2 Da (recN Db n') n++ds3 Db (recN Da n) i'):=by show _=_;rw [HI'.out.2];show _=_++dfs _ _ _ (i+1);rw [zK7 hpp];rfl
           clear hpp
           have SS:Hid (∀w',Below w0.heap.size w0 w'→Calls Tryz.prog 49 #[.agg (cNd Da k),.agg (cNd Db i)] w' fun e w''=>e= .returned (.bool true)∧Below w'.heap.size w' w''):=fun w' hb=>by
              have h:=same_r Da Db k i w' (HTA.out.below (nl _) hb) (HTB.out.below (nl _) hb)
              rw [zA2 hq] at h
              exact h
           clear hq
           go_region_held3 (fun w'=>w'.cell? ⟨w.heap.size,0,none⟩=some (.slice (some ⟨ba,offa,none⟩) n c1)∧w'.cell? ⟨w.heap.size,1,none⟩=some (.slice B1 m d1)∧w'.cell? ⟨w.heap.size+1,0,none⟩=some (.slice (some ⟨b,off,none⟩) n' c2)∧w'.cell? ⟨b,off+i*9,none⟩=some (.string (Db.Nm i))) (first
              |exact HS.out _ HM5.out.bel
              |exact HS.out _ HM.out.bel.drew) (first
              |(go_at_call 71
                with_reducible refine (SH.out _ ?_).mono ?_
                focus (exact HM.out.bel.drew)
                rintro e w5 ⟨rfl,hb5⟩
                have hq5:Below wr.heap.size wr w5:=(bR wr.heap.size wr).drew.trans hb5
                have HM5:=LH (HM.out.call hq5)
                clear hb5 hq5))
           all_goals
              go_upto_region 17 with fail
              go_region_held3 (fun w'=>w'.cell? ⟨w.heap.size,0,none⟩=some (.slice (some ⟨ba,offa,none⟩) n c1)∧w'.cell? ⟨w.heap.size+1,0,none⟩=some (.slice (some ⟨b,off,none⟩) n' c2)∧w'.cell? ⟨ba,offa+k*9,none⟩=some (.string (Da.Nm k))∧w'.cell? ⟨ba,offa+k*9+1,none⟩=some (.int .i64 (Da.Kd k))∧w'.cell? ⟨ba,offa+k*9+2,none⟩=some (.int .i64 (Da.Ax k))∧w'.cell? ⟨ba,offa+k*9+3,none⟩=some (.int .i64 (Da.Ay k))∧w'.cell? ⟨ba,offa+k*9+4,none⟩=some (.int .i64 (Da.Iv k))∧w'.cell? ⟨ba,offa+k*9+5,none⟩=some (.int .i64 (Da.Gd k))∧w'.cell? ⟨ba,offa+k*9+6,none⟩=some (.slice (Da.SA k) (Da.SN k) (Da.SC k))∧w'.cell? ⟨ba,offa+k*9+7,none⟩=some (.bool (Da.Pt k))∧w'.cell? ⟨ba,offa+k*9+8,none⟩=some (.int .i64 (Da.Rs k))∧w'.cell? ⟨b,off+i*9,none⟩=some (.string (Db.Nm i))∧w'.cell? ⟨b,off+i*9+1,none⟩=some (.int .i64 (Db.Kd i))∧w'.cell? ⟨b,off+i*9+2,none⟩=some (.int .i64 (Db.Ax i))∧w'.cell? ⟨b,off+i*9+3,none⟩=some (.int .i64 (Db.Ay i))∧w'.cell? ⟨b,off+i*9+4,none⟩=some (.int .i64 (Db.Iv i))∧w'.cell? ⟨b,off+i*9+5,none⟩=some (.int .i64 (Db.Gd i))∧w'.cell? ⟨b,off+i*9+6,none⟩=some (.slice (Db.SA i) (Db.SN i) (Db.SC i))∧w'.cell? ⟨b,off+i*9+7,none⟩=some (.bool (Db.Pt i))∧w'.cell? ⟨b,off+i*9+8,none⟩=some (.int .i64 (Db.Rs i))) (first
               |exact HS9.out _ HM6.out.bel
               |exact HS9.out _ HM5.out.bel.drew) (first
               |(go_at_call 49
                 with_reducible refine (SS.out _ ?_).mono ?_
                 focus (exact HM5.out.bel.drew)
                 rintro e w6 ⟨rfl,hb6⟩
                 have HM6:=LH (HM5.out.call ((bR w5.heap.size w5).drew.trans hb6))
                 clear hb6))
              all_goals
               go_wp2_with fail
               go_roundw
               case rel=>exact ⟨i',M,A,cp,HI'.out.1,rfl,rfl,HM6.out.to HEQ.out⟩
               case measure=>exact HMS.out
          ·have hpp:dpS (recN Da n) (zA7 Db i):=⟨HHN.out,fun h=>hq (HAT.out.2 h)⟩
           have HEQ:Hid (ds1 Ka (recL Kb m') m++ds2 Da (recN Db n') n++ds3 Db (recN Da n) i++[chrR 2 Db i (dqL ⟨#[]⟩) 0]=ds1 Ka (recL Kb m') m++ds2 Da (recN Db n') n++ds3 Db (recN Da n) i'):=by show _=_;rw [HI'.out.2];show _=_++dfs _ _ _ (i+1);rw [zJ2 hpp,←List.append_assoc];rfl
           clear hpp
           have SS:Hid (∀w',Below w0.heap.size w0 w'→Calls Tryz.prog 49 #[.agg (cNd Da k),.agg (cNd Db i)] w' fun e w''=>e= .returned (.bool false)∧Below w'.heap.size w' w''):=fun w' hb=>by
              have h:=same_r Da Db k i w' (HTA.out.below (nl _) hb) (HTB.out.below (nl _) hb)
              rw [zA0 hq] at h
              exact h
           clear hq
           go_region_held3 (fun w'=>w'.cell? ⟨w.heap.size,0,none⟩=some (.slice (some ⟨ba,offa,none⟩) n c1)∧w'.cell? ⟨w.heap.size,1,none⟩=some (.slice B1 m d1)∧w'.cell? ⟨w.heap.size+1,0,none⟩=some (.slice (some ⟨b,off,none⟩) n' c2)∧w'.cell? ⟨b,off+i*9,none⟩=some (.string (Db.Nm i))) (first
              |exact HS.out _ HM5.out.bel
              |exact HS.out _ HM.out.bel.drew) (first
              |(go_at_call 71
                with_reducible refine (SH.out _ ?_).mono ?_
                focus (exact HM.out.bel.drew)
                rintro e w5 ⟨rfl,hb5⟩
                have hq5:Below wr.heap.size wr w5:=(bR wr.heap.size wr).drew.trans hb5
                have HM5:=LH (HM.out.call hq5)
                clear hb5 hq5))
           all_goals
              go_upto_region 17 with fail
              go_region_held3 (fun w'=>w'.cell? ⟨w.heap.size,0,none⟩=some (.slice (some ⟨ba,offa,none⟩) n c1)∧w'.cell? ⟨w.heap.size+1,0,none⟩=some (.slice (some ⟨b,off,none⟩) n' c2)∧w'.cell? ⟨ba,offa+k*9,none⟩=some (.string (Da.Nm k))∧w'.cell? ⟨ba,offa+k*9+1,none⟩=some (.int .i64 (Da.Kd k))∧w'.cell? ⟨ba,offa+k*9+2,none⟩=some (.int .i64 (Da.Ax k))∧w'.cell? ⟨ba,offa+k*9+3,none⟩=some (.int .i64 (Da.Ay k))∧w'.cell? ⟨ba,offa+k*9+4,none⟩=some (.int .i64 (Da.Iv k))∧w'.cell? ⟨ba,offa+k*9+5,none⟩=some (.int .i64 (Da.Gd k))∧w'.cell? ⟨ba,offa+k*9+6,none⟩=some (.slice (Da.SA k) (Da.SN k) (Da.SC k))∧w'.cell? ⟨ba,offa+k*9+7,none⟩=some (.bool (Da.Pt k))∧w'.cell? ⟨ba,offa+k*9+8,none⟩=some (.int .i64 (Da.Rs k))∧w'.cell? ⟨b,off+i*9,none⟩=some (.string (Db.Nm i))∧w'.cell? ⟨b,off+i*9+1,none⟩=some (.int .i64 (Db.Kd i))∧w'.cell? ⟨b,off+i*9+2,none⟩=some (.int .i64 (Db.Ax i))∧w'.cell? ⟨b,off+i*9+3,none⟩=some (.int .i64 (Db.Ay i))∧w'.cell? ⟨b,off+i*9+4,none⟩=some (.int .i64 (Db.Iv i))∧w'.cell? ⟨b,off+i*9+5,none⟩=some (.int .i64 (Db.Gd i))∧w'.cell? ⟨b,off+i*9+6,none⟩=some (.slice (Db.SA i) (Db.SN i) (Db.SC i))∧w'.cell? ⟨b,off+i*9+7,none⟩=some (.bool (Db.Pt i))∧w'.cell? ⟨b,off+i*9+8,none⟩=some (.int .i64 (Db.Rs i))) (first
               |exact HS9.out _ HM6.out.bel
               |exact HS9.out _ HM5.out.bel.drew) (first
               |(go_at_call 49
                 with_reducible refine (SS.out _ ?_).mono ?_
                 focus (exact HM5.out.bel.drew)
                 rintro e w6 ⟨rfl,hb6⟩
                 have HM6:=LH (HM5.out.call ((bR w5.heap.size w5).drew.trans hb6))
                 clear hb6))
              all_goals
               obtain ⟨d0,d1_⟩:=blk2 (HDW.out.xa.call HM6.out.bel)
               obtain ⟨e0,e1_⟩:=blk2 (HDW.out.xb.call HM6.out.bel)
               have HCM:Hid (w6.rangeAt b (off+i*9) [.string (Db.Nm i),.int .i64 (Db.Kd i),.int .i64 (Db.Ax i),.int .i64 (Db.Ay i),.int .i64 (Db.Iv i),.int .i64 (Db.Gd i),.slice (Db.SA i) (Db.SN i) (Db.SC i),.bool (Db.Pt i),.int .i64 (Db.Rs i)]):=HC.out _ HM6.out.bel
               have hal8:Below w6.heap.size w6 (w6.alloc (Obj.cells (cNz 2 Db i) 34)):=(bR _ w6).alloc (nl _) _
               have HM8:=LH (HM6.out.call hal8)
               have HX8:Hid (Blk (w6.alloc (Obj.cells (cNz 2 Db i) 34)) w6.heap.size 34 (chm (chD 2 Db i (dqL ⟨#[]⟩) 0)).toArray):=by rw [zE7];exact Blk.new _ _ _
               clear hal8
               go_wp2_with (first
                  |(refine wpList_load_mid rfl 30 (.tmp 102) rfl b (off+i*9) rfl _ _ HCM.out Tryz.underlying30 rfl (by kernel_rfl) ?_)
                  |(at_builtin
                    refine zB6 rfl (.tmp 98) (.tmp 105) rfl w0.heap.size (.slice A M.length cp) M rfl HM8.out.own w6.heap.size (chD 2 Db i (dqL ⟨#[]⟩) 0) rfl HX8.out HLL.out w0 HM8.out.bel (nl _) ?_
                    intro A9 c9 w9 ho9 hb9 _ _
                    have HM9:=LH (HM8.out.app ho9 hb9 HTB.out (zB9 _ _ _))
                    clear ho9 hb9))
               go_roundw
               case rel=>exact ⟨i',M++[chD 2 Db i (dqL ⟨#[]⟩) 0],A9,c9,HI'.out.1,rfl,by rw [List.length_append,List.length_singleton],HM9.out.to HEQ.out⟩
               case measure=>exact HMS.out
        have T0:decide ((i:Int)<(n':Int))=false:=by simp<;> omega
        have T0':decide (i<n')=false:=dF hlt
        have e:i=n':=by have:=Hi.out;omega
        have HM0:Hid (DfI w0 wr (.slice A M.length cp) M (ds1 Ka (recL Kb m') m++ds2 Da (recN Db n') n++ds3 Db (recN Da n) n')):=by have h:=HM.out;rw [e] at h;exact h
        clear hlt e HM Hi
        go_wp2_with fail
        go_loopw [5,10] (fun u v wr=>∃(i:Nat) (M:List Chm) (A:Option Addr) (c:Nat),Hid (i≤n')∧v= .int .i64 i∧u= .slice A M.length c∧Hid (DfI w0 wr (.slice A M.length c) M (ds1 Ka (recL Kb m') m++ds2 Da (recN Db n') n++ds3 Db (recN Da n) n'++ds4 Db (recN Da n) i))) (fun _ v _=>n' - (RowKit.intOf v).toNat)
        case atStart=>exact ⟨0,M,A,cp,Nat.zero_le _,rfl,rfl,HM0.out.to (by show _=_++[];rw [List.append_nil])⟩
        case round=>
         clear HM0 d0 d1_ e0 e1_
         rename World=>wr
         obtain ⟨i,M,A,cp,Hi,rfl,rfl,HM⟩:=hrel
         obtain ⟨d0,d1_⟩:=blk2 (HDW.out.xa.call HM.out.bel)
         obtain ⟨e0,e1_⟩:=blk2 (HDW.out.xb.call HM.out.bel)
         by_cases hlt:i<n'
         case pos=>
          have T0:decide ((i:Int)<(n':Int))=true:=by simp<;> omega
          have T0':decide (i<n')=true:=dU hlt
          obtain ⟨i',hi'⟩:∃z,z=i+1:=⟨_,rfl⟩
          have x0:IntKind.i64.wrap ((i:Int)+1)=(i':Int):=by have:=HLN.out;rw [IntKind.wrap_i64];omega
          have k0:(0:Int)≤(i:Int):=by omega
          have k1:(i:Int)<(n':Int):=by omega
          have HMS:Hid (n' - (RowKit.intOf (Value.int .i64 (i':Int))).toNat<n' - (RowKit.intOf (Value.int .i64 (i:Int))).toNat):=by show _<_;simp [RowKit.intOf];omega
          have HI':Hid (i'≤n'∧i'=i+1):=⟨by omega,hi'⟩
          have HLL:Hid (M.length≤20000):=HM.out.small (by (try simp only [List.length_append]);have:=HLN.out;have:=zJ1 Ka (recL Kb m') m;have:=zM3 Da (recN Db n') n;have:=zQ7 Db (recN Da n) n';have:=ds4_len Db (recN Da n) i;omega)
          obtain ⟨b,off,hA,hb,hC,htab⟩:=HDW.out.nb.at hlt
          subst hA
          have HC:Hid (∀w',Below w0.heap.size w0 w'→CellsAt w' b (off+i*9) (Db.vals i)):=fun w' h=>hC.below h hb
          have HTB:=LH htab
          have SH:Hid (∀w',Below w0.heap.size w0 w'→Calls Tryz.prog 71 #[.agg #[.slice A1 n c1,.slice B1 m d1],.string (Db.Nm i)] w' fun e w''=>e= .returned (.int .i64 (fnd Da.Nm n (Db.Nm i)))∧Below w'.heap.size w' w''):=fun w' hb=>zN6 _ _ n c1 m d1 Da _ w' (by have:=HLN.out;omega) (HDW.out.na.below (nl _) hb)
          have HS:Hid (∀w',Below w0.heap.size w0 w'→w'.cell? ⟨w.heap.size,0,none⟩=some (.slice A1 n c1)∧w'.cell? ⟨w.heap.size,1,none⟩=some (.slice B1 m d1)∧w'.cell? ⟨w.heap.size+1,0,none⟩=some (.slice (some ⟨b,off,none⟩) n' c2)∧w'.cell? ⟨b,off+i*9,none⟩=some (.string (Db.Nm i))):=fun w' hb=>by
           have hc:=HC.out w' hb
           exact ⟨(HDW.out.xa.call hb).cell 0,(HDW.out.xa.call hb).cell 1,(HDW.out.xb.call hb).cell 0,hc 0 _ rfl⟩
          clear hi' hb hC htab
          go_upto_region 22 with fail
          clear d0 d1_ e0 e1_
          rcases zC4 Da.Nm n (Db.Nm i) with ⟨hf,_⟩|⟨k,_,hf,_,_⟩
          ·rw [hf] at SH
           have hpp:dpD (recN Da n) (zA7 Db i):=zE2 hf
           have HEQ:Hid (ds1 Ka (recL Kb m') m++ds2 Da (recN Db n') n++ds3 Db (recN Da n) n'++ds4 Db (recN Da n) i++[chrR 1 Db i (dqL ⟨#[]⟩) 0]=ds1 Ka (recL Kb m') m++ds2 Da (recN Db n') n++ds3 Db (recN Da n) n'++ds4 Db (recN Da n) i'):=by show _=_;rw [HI'.out.2];show _=_++dfs _ _ _ (i+1);rw [zJ2 hpp,←List.append_assoc];rfl
           clear hf hpp
           go_region_held3 (fun w'=>w'.cell? ⟨w.heap.size,0,none⟩=some (.slice A1 n c1)∧w'.cell? ⟨w.heap.size,1,none⟩=some (.slice B1 m d1)∧w'.cell? ⟨w.heap.size+1,0,none⟩=some (.slice (some ⟨b,off,none⟩) n' c2)∧w'.cell? ⟨b,off+i*9,none⟩=some (.string (Db.Nm i))) (first
                |exact HS.out _ HM5.out.bel
                |exact HS.out _ HM.out.bel.drew) (first
                |(go_at_call 71
                  with_reducible refine (SH.out _ ?_).mono ?_
                  focus (exact HM.out.bel.drew)
                  rintro e w5 ⟨rfl,hb5⟩
                  have hq5:Below wr.heap.size wr w5:=(bR wr.heap.size wr).drew.trans hb5
                  have HM5:=LH (HM.out.call hq5)
                  clear hb5 hq5))
           all_goals
                obtain ⟨d0,d1_⟩:=blk2 (HDW.out.xa.call HM5.out.bel)
                obtain ⟨e0,e1_⟩:=blk2 (HDW.out.xb.call HM5.out.bel)
                have HCM:Hid (w5.rangeAt b (off+i*9) [.string (Db.Nm i),.int .i64 (Db.Kd i),.int .i64 (Db.Ax i),.int .i64 (Db.Ay i),.int .i64 (Db.Iv i),.int .i64 (Db.Gd i),.slice (Db.SA i) (Db.SN i) (Db.SC i),.bool (Db.Pt i),.int .i64 (Db.Rs i)]):=HC.out _ HM5.out.bel
                have hal8:Below w5.heap.size w5 (w5.alloc (Obj.cells (cNz 1 Db i) 34)):=(bR _ w5).alloc (nl _) _
                have HM8:=LH (HM5.out.call hal8)
                have HX8:Hid (Blk (w5.alloc (Obj.cells (cNz 1 Db i) 34)) w5.heap.size 34 (chm (chD 1 Db i (dqL ⟨#[]⟩) 0)).toArray):=by rw [zE7];exact Blk.new _ _ _
                clear hal8
                go_wp2_with (first
                 |(refine wpList_load_mid rfl 30 (.tmp 127) rfl b (off+i*9) rfl _ _ HCM.out Tryz.underlying30 rfl (by kernel_rfl) ?_)
                 |(at_builtin
                   refine zB6 rfl (.tmp 123) (.tmp 130) rfl w0.heap.size (.slice A M.length cp) M rfl HM8.out.own w5.heap.size (chD 1 Db i (dqL ⟨#[]⟩) 0) rfl HX8.out HLL.out w0 HM8.out.bel (nl _) ?_
                   intro A9 c9 w9 ho9 hb9 _ _
                   have HM9:=LH (HM8.out.app ho9 hb9 HTB.out (zB9 _ _ _))
                   clear ho9 hb9))
                go_roundw
                case rel=>exact ⟨i',M++[chD 1 Db i (dqL ⟨#[]⟩) 0],A9,c9,HI'.out.1,rfl,by rw [List.length_append,List.length_singleton],HM9.out.to HEQ.out⟩
                case measure=>exact HMS.out
          ·rw [hf] at SH
           have hpp:¬dpD (recN Da n) (zA7 Db i):=fun h=>h (zE1 hf)
           have tk:decide ((k:Int)<0)=false:=dF (by omega)
           have HEQ:Hid (ds1 Ka (recL Kb m') m++ds2 Da (recN Db n') n++ds3 Db (recN Da n) n'++ds4 Db (recN Da n) i=ds1 Ka (recL Kb m') m++ds2 Da (recN Db n') n++ds3 Db (recN Da n) n'++ds4 Db (recN Da n) i'):=by show _=_;rw [HI'.out.2];show _=_++dfs _ _ _ (i+1);rw [zK7 hpp];rfl
           clear hf hpp
           go_region_held3 (fun w'=>w'.cell? ⟨w.heap.size,0,none⟩=some (.slice A1 n c1)∧w'.cell? ⟨w.heap.size,1,none⟩=some (.slice B1 m d1)∧w'.cell? ⟨w.heap.size+1,0,none⟩=some (.slice (some ⟨b,off,none⟩) n' c2)∧w'.cell? ⟨b,off+i*9,none⟩=some (.string (Db.Nm i))) (first
                |exact HS.out _ HM5.out.bel
                |exact HS.out _ HM.out.bel.drew) (first
                |(go_at_call 71
                  with_reducible refine (SH.out _ ?_).mono ?_
                  focus (exact HM.out.bel.drew)
                  rintro e w5 ⟨rfl,hb5⟩
                  have hq5:Below wr.heap.size wr w5:=(bR wr.heap.size wr).drew.trans hb5
                  have HM5:=LH (HM.out.call hq5)
                  clear hb5 hq5))
           all_goals
                go_wp2_with fail
                go_roundw
                case rel=>exact ⟨i',M,A,cp,HI'.out.1,rfl,rfl,HM5.out.to HEQ.out⟩
                case measure=>exact HMS.out
         have T0:decide ((i:Int)<(n':Int))=false:=by simp<;> omega
         have T0':decide (i<n')=false:=dF hlt
         have e:i=n':=by have:=Hi.out;omega
         have HM0:Hid (DfI w0 wr (.slice A M.length cp) M (ds1 Ka (recL Kb m') m++ds2 Da (recN Db n') n++ds3 Db (recN Da n) n'++ds4 Db (recN Da n) n')):=by have h:=HM.out;rw [e] at h;exact h
         clear hlt e HM Hi
         go_wp2_with fail
         go_loopw [5,11] (fun u v wr=>∃(i:Nat) (M:List Chm) (A:Option Addr) (c:Nat),Hid (i≤m')∧v= .int .i64 i∧u= .slice A M.length c∧Hid (DfI w0 wr (.slice A M.length c) M (ds1 Ka (recL Kb m') m++ds2 Da (recN Db n') n++ds3 Db (recN Da n) n'++ds4 Db (recN Da n) n'++ds5 Kb (recL Ka m) i))) (fun _ v _=>m' - (RowKit.intOf v).toNat)
         case atStart=>exact ⟨0,M,A,cp,Nat.zero_le _,rfl,rfl,HM0.out.to (by show _=_++[];rw [List.append_nil])⟩
         case round=>
          clear HM0 d0 d1_ e0 e1_
          rename World=>wr
          obtain ⟨i,M,A,cp,Hi,rfl,rfl,HM⟩:=hrel
          obtain ⟨d0,d1_⟩:=blk2 (HDW.out.xa.call HM.out.bel)
          obtain ⟨e0,e1_⟩:=blk2 (HDW.out.xb.call HM.out.bel)
          by_cases hlt:i<m'
          case pos=>
           have T0:decide ((i:Int)<(m':Int))=true:=by simp<;> omega
           have T0':decide (i<m')=true:=dU hlt
           obtain ⟨i',hi'⟩:∃z,z=i+1:=⟨_,rfl⟩
           have x0:IntKind.i64.wrap ((i:Int)+1)=(i':Int):=by have:=HLN.out;rw [IntKind.wrap_i64];omega
           have k0:(0:Int)≤(i:Int):=by omega
           have k1:(i:Int)<(m':Int):=by omega
           have HMS:Hid (m' - (RowKit.intOf (Value.int .i64 (i':Int))).toNat<m' - (RowKit.intOf (Value.int .i64 (i:Int))).toNat):=by show _<_;simp [RowKit.intOf];omega
           have HI':Hid (i'≤m'∧i'=i+1):=⟨by omega,hi'⟩
           have HLL:Hid (M.length≤20000):=HM.out.small (by (try simp only [List.length_append]);have:=HLN.out;have:=zJ1 Ka (recL Kb m') m;have:=zM3 Da (recN Db n') n;have:=zQ7 Db (recN Da n) n';have:=ds4_len Db (recN Da n) n';have:=ds5_len Kb (recL Ka m) i;omega)
           obtain ⟨b,off,hA,hb,hC,htab⟩:=HDW.out.kb.at hlt
           subst hA
           have HC:Hid (∀w',Below w0.heap.size w0 w'→CellsAt w' b (off+i*11) (Kb.vals i)):=fun w' h=>hC.below h hb
           have HTB:=LH htab
           have SH:Hid (∀w',Below w0.heap.size w0 w'→Calls Tryz.prog 84 #[.agg #[.slice A1 n c1,.slice B1 m d1],.agg (cLk Kb i)] w' fun e w''=>e= .returned (.bool (boolOf (zA5 Kb i∈recL Ka m)))∧Below w'.heap.size w' w''):=fun w' hb=>r_hasLink _ _ n c1 m d1 (recN Da n) Ka Kb i w' (by have:=HLN.out;omega) (by rw [HDW.out.ra,HDW.out.la];exact HV.out) (HDW.out.ka.below (nl _) hb) (htab.below (nl _) hb)
           have HS:Hid (∀w',Below w0.heap.size w0 w'→w'.cell? ⟨w.heap.size,0,none⟩=some (.slice A1 n c1)∧w'.cell? ⟨w.heap.size,1,none⟩=some (.slice B1 m d1)∧w'.cell? ⟨w.heap.size+1,1,none⟩=some (.slice (some ⟨b,off,none⟩) m' d2)∧w'.cell? ⟨b,off+i*11,none⟩=some (.string (Kb.Nm i))∧w'.cell? ⟨b,off+i*11+1,none⟩=some (.string (Kb.Fr i))∧w'.cell? ⟨b,off+i*11+2,none⟩=some (.string (Kb.To i))∧w'.cell? ⟨b,off+i*11+3,none⟩=some (.int .i64 (Kb.Kd i))∧w'.cell? ⟨b,off+i*11+4,none⟩=some (.int .i64 (Kb.Ln i))∧w'.cell? ⟨b,off+i*11+5,none⟩=some (.int .i64 (Kb.Up i))∧w'.cell? ⟨b,off+i*11+6,none⟩=some (.int .i64 (Kb.Dn i))∧w'.cell? ⟨b,off+i*11+7,none⟩=some (.string (Kb.Sc i))∧w'.cell? ⟨b,off+i*11+8,none⟩=some (.int .i64 (Kb.Wd i))∧w'.cell? ⟨b,off+i*11+9,none⟩=some (.int .i64 (Kb.Ht i))∧w'.cell? ⟨b,off+i*11+10,none⟩=some (.slice (Kb.CA i) (Kb.CN i) (Kb.CC i))):=fun w' hb=>by
                have hc:=HC.out w' hb
                exact ⟨(HDW.out.xa.call hb).cell 0,(HDW.out.xa.call hb).cell 1,(HDW.out.xb.call hb).cell 1,hc 0 _ rfl,hc 1 _ rfl,hc 2 _ rfl,hc 3 _ rfl,hc 4 _ rfl,hc 5 _ rfl,hc 6 _ rfl,hc 7 _ rfl,hc 8 _ rfl,hc 9 _ rfl,hc 10 _ rfl⟩
           clear hi' hb hC htab
           go_upto_region 27 with fail
           clear d0 d1_ e0 e1_
           by_cases hp:zA5 Kb i∈recL Ka m
           ·rw [zA2 hp] at SH
            have hpp:¬dpL (recL Ka m) (zA5 Kb i):=fun h=>h hp
            have HEQ:Hid (ds1 Ka (recL Kb m') m++ds2 Da (recN Db n') n++ds3 Db (recN Da n) n'++ds4 Db (recN Da n) n'++ds5 Kb (recL Ka m) i=ds1 Ka (recL Kb m') m++ds2 Da (recN Db n') n++ds3 Db (recN Da n) n'++ds4 Db (recN Da n) n'++ds5 Kb (recL Ka m) i'):=by show _=_;rw [HI'.out.2];show _=_++dfs _ _ _ (i+1);rw [zK7 hpp];rfl
            clear hp hpp
            go_region_held3 (fun w'=>w'.cell? ⟨w.heap.size,0,none⟩=some (.slice A1 n c1)∧w'.cell? ⟨w.heap.size,1,none⟩=some (.slice B1 m d1)∧w'.cell? ⟨w.heap.size+1,1,none⟩=some (.slice (some ⟨b,off,none⟩) m' d2)∧w'.cell? ⟨b,off+i*11,none⟩=some (.string (Kb.Nm i))∧w'.cell? ⟨b,off+i*11+1,none⟩=some (.string (Kb.Fr i))∧w'.cell? ⟨b,off+i*11+2,none⟩=some (.string (Kb.To i))∧w'.cell? ⟨b,off+i*11+3,none⟩=some (.int .i64 (Kb.Kd i))∧w'.cell? ⟨b,off+i*11+4,none⟩=some (.int .i64 (Kb.Ln i))∧w'.cell? ⟨b,off+i*11+5,none⟩=some (.int .i64 (Kb.Up i))∧w'.cell? ⟨b,off+i*11+6,none⟩=some (.int .i64 (Kb.Dn i))∧w'.cell? ⟨b,off+i*11+7,none⟩=some (.string (Kb.Sc i))∧w'.cell? ⟨b,off+i*11+8,none⟩=some (.int .i64 (Kb.Wd i))∧w'.cell? ⟨b,off+i*11+9,none⟩=some (.int .i64 (Kb.Ht i))∧w'.cell? ⟨b,off+i*11+10,none⟩=some (.slice (Kb.CA i) (Kb.CN i) (Kb.CC i))) (first
             |exact HS.out _ HM5.out.bel
             |exact HS.out _ HM.out.bel.drew) (first
             |(go_at_call 84
               with_reducible refine (SH.out _ ?_).mono ?_
               focus (exact HM.out.bel.drew)
               rintro e w5 ⟨rfl,hb5⟩
               have hq5:Below wr.heap.size wr w5:=(bR wr.heap.size wr).drew.trans hb5
               have HM5:=LH (HM.out.call hq5)
               clear hb5 hq5))
            all_goals
             go_wp2_with fail
             go_roundw
             case rel=>exact ⟨i',M,A,cp,HI'.out.1,rfl,rfl,HM5.out.to HEQ.out⟩
             case measure=>exact HMS.out
           ·rw [zA0 hp] at SH
            have hpp:dpL (recL Ka m) (zA5 Kb i):=hp
            have HEQ:Hid (ds1 Ka (recL Kb m') m++ds2 Da (recN Db n') n++ds3 Db (recN Da n) n'++ds4 Db (recN Da n) n'++ds5 Kb (recL Ka m) i++[chrR 4 (dqN ⟨#[]⟩) 0 Kb i]=ds1 Ka (recL Kb m') m++ds2 Da (recN Db n') n++ds3 Db (recN Da n) n'++ds4 Db (recN Da n) n'++ds5 Kb (recL Ka m) i'):=by show _=_;rw [HI'.out.2];show _=_++dfs _ _ _ (i+1);rw [zJ2 hpp,←List.append_assoc];rfl
            clear hp hpp
            go_region_held3 (fun w'=>w'.cell? ⟨w.heap.size,0,none⟩=some (.slice A1 n c1)∧w'.cell? ⟨w.heap.size,1,none⟩=some (.slice B1 m d1)∧w'.cell? ⟨w.heap.size+1,1,none⟩=some (.slice (some ⟨b,off,none⟩) m' d2)∧w'.cell? ⟨b,off+i*11,none⟩=some (.string (Kb.Nm i))∧w'.cell? ⟨b,off+i*11+1,none⟩=some (.string (Kb.Fr i))∧w'.cell? ⟨b,off+i*11+2,none⟩=some (.string (Kb.To i))∧w'.cell? ⟨b,off+i*11+3,none⟩=some (.int .i64 (Kb.Kd i))∧w'.cell? ⟨b,off+i*11+4,none⟩=some (.int .i64 (Kb.Ln i))∧w'.cell? ⟨b,off+i*11+5,none⟩=some (.int .i64 (Kb.Up i))∧w'.cell? ⟨b,off+i*11+6,none⟩=some (.int .i64 (Kb.Dn i))∧w'.cell? ⟨b,off+i*11+7,none⟩=some (.string (Kb.Sc i))∧w'.cell? ⟨b,off+i*11+8,none⟩=some (.int .i64 (Kb.Wd i))∧w'.cell? ⟨b,off+i*11+9,none⟩=some (.int .i64 (Kb.Ht i))∧w'.cell? ⟨b,off+i*11+10,none⟩=some (.slice (Kb.CA i) (Kb.CN i) (Kb.CC i))) (first
             |exact HS.out _ HM5.out.bel
             |exact HS.out _ HM.out.bel.drew) (first
             |(go_at_call 84
               with_reducible refine (SH.out _ ?_).mono ?_
               focus (exact HM.out.bel.drew)
               rintro e w5 ⟨rfl,hb5⟩
               have hq5:Below wr.heap.size wr w5:=(bR wr.heap.size wr).drew.trans hb5
               have HM5:=LH (HM.out.call hq5)
               clear hb5 hq5))
            all_goals
             obtain ⟨d0,d1_⟩:=blk2 (HDW.out.xa.call HM5.out.bel)
             obtain ⟨e0,e1_⟩:=blk2 (HDW.out.xb.call HM5.out.bel)
             have HCM:Hid (w5.rangeAt b (off+i*11) [.string (Kb.Nm i),.string (Kb.Fr i),.string (Kb.To i),.int .i64 (Kb.Kd i),.int .i64 (Kb.Ln i),.int .i64 (Kb.Up i),.int .i64 (Kb.Dn i),.string (Kb.Sc i),.int .i64 (Kb.Wd i),.int .i64 (Kb.Ht i),.slice (Kb.CA i) (Kb.CN i) (Kb.CC i)]):=HC.out _ HM5.out.bel
             have hal8:Below w5.heap.size w5 (w5.alloc (Obj.cells (cLz 4 Kb i) 34)):=(bR _ w5).alloc (nl _) _
             have HM8:=LH (HM5.out.call hal8)
             have HX8:Hid (Blk (w5.alloc (Obj.cells (cLz 4 Kb i) 34)) w5.heap.size 34 (chm (chD 4 (dqN ⟨#[]⟩) 0 Kb i)).toArray):=by rw [zE7];exact Blk.new _ _ _
             clear hal8
             go_wp2_with (first
                |(refine wpList_load_mid rfl 32 (.tmp 151) rfl b (off+i*11) rfl _ _ HCM.out Tryz.underlying32 rfl (by kernel_rfl) ?_)
                |(at_builtin
                  refine zB6 rfl (.tmp 147) (.tmp 154) rfl w0.heap.size (.slice A M.length cp) M rfl HM8.out.own w5.heap.size (chD 4 (dqN ⟨#[]⟩) 0 Kb i) rfl HX8.out HLL.out w0 HM8.out.bel (nl _) ?_
                  intro A9 c9 w9 ho9 hb9 _ _
                  have HM9:=LH (HM8.out.app ho9 hb9 (zB9 _ _ _) HTB.out)
                  clear ho9 hb9))
             go_roundw
             case rel=>exact ⟨i',M++[chD 4 (dqN ⟨#[]⟩) 0 Kb i],A9,c9,HI'.out.1,rfl,by rw [List.length_append,List.length_singleton],HM9.out.to HEQ.out⟩
             case measure=>exact HMS.out
          have T0:decide ((i:Int)<(m':Int))=false:=by simp<;> omega
          have T0':decide (i<m')=false:=dF hlt
          have e:i=m':=by have:=Hi.out;omega
          have HM0:Hid (DfI w0 wr (.slice A M.length cp) M (ds1 Ka (recL Kb m') m++ds2 Da (recN Db n') n++ds3 Db (recN Da n) n'++ds4 Db (recN Da n) n'++ds5 Kb (recL Ka m) m')):=by have h:=HM.out;rw [e] at h;exact h
          clear hlt e HM Hi
          go_wp2_with fail
          go_ret
          have hp:=HM0.out.post HDW.out.bl
          rw [show ds1 Ka (recL Kb m') m++ds2 Da (recN Db n') n++ds3 Db (recN Da n) n'++ds4 Db (recN Da n) n'++ds5 Kb (recL Ka m) m'=dfF (recN Da n) (recL Ka m) (recN Db n') (recL Kb m') from pr_all Da Db Ka Kb n m n' m',HDW.out.ra,HDW.out.la,HDW.out.rb,HDW.out.lb] at hp
          exact ⟨_,rfl,hp⟩
set_option maxRecDepth 100000 in
set_option maxHeartbeats 8000000 in
theorem r_alike (NA LA NB LB:Option Addr) (n nc0 m lc0 n' nc1 m' lc1:Nat) (D D':Nds) (K K':Lks) (w:World) (hv:VS (recN D n) (recL K m)) (hv':VS (recN D' n') (recL K' m')) (hD:NdIn w NA n D) (hK:LkIn w LA m K) (hD':NdIn w NB n' D') (hK':LkIn w LB m' K'):
 Calls Tryz.prog 30 #[.agg #[.slice NA n nc0,.slice LA m lc0],.agg #[.slice NB n' nc1,.slice LB m' lc1]] w fun e w'=>e= .returned (.bool (boolOf (alkP (recN D n) (recL K m) (recN D' n') (recL K' m'))))∧Below w.heap.size w w':=by
 have SD:Hid (∀w',Below w.heap.size w w'→Calls Tryz.prog 41 #[.agg #[.slice NA n nc0,.slice LA m lc0],.agg #[.slice NB n' nc1,.slice LB m' lc1]] w' fun e w''=>∃u,e= .returned u∧ChPost (dfF (recN D n) (recL K m) (recN D' n') (recL K' m')) w' u w''):=fun w' hb=>r_Diff NA LA NB LB n nc0 m lc0 n' nc1 m' lc1 D D' K K' w' hv hv' (zB3 hD hb) (zB1 hK hb) (zB3 hD' hb) (zB1 hK' hb)
 obtain ⟨V,hV⟩:∃V,boolOf (alkP (recN D n) (recL K m) (recN D' n') (recL K' m'))=V:=⟨_,rfl⟩
 obtain ⟨F,hF⟩:∃F,dfF (recN D n) (recL K m) (recN D' n') (recL K' m')=F:=⟨_,rfl⟩
 have HV:Hid ((n=n'∧m=m'∧F=[]→V=true)∧(¬(n=n'∧m=m'∧F=[])→V=false)):=by
  have h:alkP (recN D n) (recL K m) (recN D' n') (recL K' m')↔(n=n'∧m=m'∧F=[]):=by
   unfold alkP
   rw [zA3,zA4,zA3,zA4,hF]
  exact ⟨fun q=>hV.symm.trans (zA2 (h.2 q)),fun q=>hV.symm.trans (zA0 fun r=>q (h.1 r))⟩
 rw [hV]
 rw [hF] at SD
 have HAL:Hid (Below w.heap.size w ((w.alloc (Obj.cells #[.slice NA n nc0,.slice LA m lc0] 52)).alloc (Obj.cells #[.slice NB n' nc1,.slice LB m' lc1] 52))):=((bR _ w).alloc (nl _) _).alloc (by simp) _
 have HXA:Hid (Blk ((w.alloc (Obj.cells #[.slice NA n nc0,.slice LA m lc0] 52)).alloc (Obj.cells #[.slice NB n' nc1,.slice LB m' lc1] 52)) w.heap.size 52 #[.slice NA n nc0,.slice LA m lc0]):=(Blk.new _ _ _).alloc _
 have HXB:Hid (Blk ((w.alloc (Obj.cells #[.slice NA n nc0,.slice LA m lc0] 52)).alloc (Obj.cells #[.slice NB n' nc1,.slice LB m' lc1] 52)) (w.heap.size+1) 52 #[.slice NB n' nc1,.slice LB m' lc1]):=by have h:=Blk.new (w.alloc (Obj.cells #[.slice NA n nc0,.slice LA m lc0] 52)) 52 #[.slice NB n' nc1,.slice LB m' lc1];rw [zB0] at h;exact h
 clear hv hv' hD hK hD' hK' hV hF
 by_cases h1:n=n'
 case neg=>
  have t1:((n:Int)==(n':Int))=false:=by rw [beq_eq_false_iff_ne];omega
  have t2:(n==n')=false:=by simpa using h1
  obtain rfl:V=false:=HV.out.2 fun q=>h1 q.1
  clear h1
  go_enter Tryz.func30,Tryz.ntmps30
  go_upto_region 1 with fail
  generalize (w.alloc (Obj.cells #[.slice NA n nc0,.slice LA m lc0] 52)).alloc (Obj.cells #[.slice NB n' nc1,.slice LB m' lc1] 52)=w3 at HAL HXA HXB⊢
  obtain ⟨d0,d1⟩:=blk2 HXA.out
  obtain ⟨e0,e1⟩:=blk2 HXB.out
  go_wp2_with fail
  go_ret
  exact ⟨rfl,HAL.out⟩
 have t1:((n:Int)==(n':Int))=true:=by rw [h1];simp
 have t2:(n==n')=true:=by simpa using h1
 by_cases h2:m=m'
 case neg=>
  have t3:((m:Int)==(m':Int))=false:=by rw [beq_eq_false_iff_ne];omega
  have t4:(m==m')=false:=by simpa using h2
  obtain rfl:V=false:=HV.out.2 fun q=>h2 q.2.1
  clear h1 h2
  go_enter Tryz.func30,Tryz.ntmps30
  go_upto_region 1 with fail
  generalize (w.alloc (Obj.cells #[.slice NA n nc0,.slice LA m lc0] 52)).alloc (Obj.cells #[.slice NB n' nc1,.slice LB m' lc1] 52)=w3 at HAL HXA HXB⊢
  obtain ⟨d0,d1⟩:=blk2 HXA.out
  obtain ⟨e0,e1⟩:=blk2 HXB.out
  go_wp2_with fail
  go_ret
  exact ⟨rfl,HAL.out⟩
 have t3:((m:Int)==(m':Int))=true:=by rw [h2];simp
 have t4:(m==m')=true:=by simpa using h2
 have HVV:Hid (V=(((F.length:Int))==0)):=by
  show V=_
  by_cases hf:F=[]
  ·rw [HV.out.1 ⟨h1,h2,hf⟩,hf];rfl
  ·rw [HV.out.2 fun q=>hf q.2.2]
   symm
   rw [beq_eq_false_iff_ne]
   have:F.length≠0:=fun q=>hf (List.length_eq_zero_iff.1 q)
   omega
 obtain ⟨k,hk⟩:∃k,F.length=k:=⟨_,rfl⟩
 rw [hk] at HVV
 obtain ⟨b,hb⟩:∃b,((k:Int)==0)=b:=⟨_,rfl⟩
 rw [hb] at HVV
 have t5:(k==0)=b:=by rw [←hb];cases k<;> simp<;> omega
 obtain rfl:V=b:=HVV.out
 have HKL:=LH hk
 clear h1 h2 hk
 go_enter Tryz.func30,Tryz.ntmps30
 go_upto_region 1 with fail
 generalize (w.alloc (Obj.cells #[.slice NA n nc0,.slice LA m lc0] 52)).alloc (Obj.cells #[.slice NB n' nc1,.slice LB m' lc1] 52)=w3 at HAL HXA HXB⊢
 obtain ⟨d0,d1⟩:=blk2 HXA.out
 obtain ⟨e0,e1⟩:=blk2 HXB.out
 go_wp2_with (first
  |(go_at_call 41
    with_reducible refine (SD.out _ HAL.out).mono ?_
    rintro e w4 ⟨u,rfl,M,A,c,_,rfl,_,_,hb4⟩
    rw [HKL.out]
    have HB4:=LH (zA1 HAL.out hb4)
    clear hb4))
 go_ret
 exact ⟨rfl,HB4.out⟩
end Go.Proofs.YtchakniaoeodmaaGreatDoor

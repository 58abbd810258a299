/- Merged texts of these proofs: ScM, ScDa. -/
import Derived.Test.YtchakniaoeodmaaGreatDoorMgUV
import Derived.Test.YtchakniaoeodmaaGreatDoorMgAp
namespace Go.Proofs.YtchakniaoeodmaaGreatDoor
open Go.RowKit
set_option linter.unusedVariables false
set_option linter.unusedSimpArgs false
def nd1K (C:Nds) (i:Nat):Nds:=⟨fun _=>C.Nm i,fun _=>C.Kd i,fun _=>C.Ax i,fun _=>C.Ay i,fun _=>C.Iv i,fun _=>C.Gd i,fun _=>C.SA i,fun _=>C.SN i,fun _=>C.SC i,fun _=>C.SX i,fun _=>C.SY i,fun _=>C.Pt i,fun _=>C.Rs i⟩
def lk1K (E:Lks) (j:Nat):Lks:=⟨fun _=>E.Nm j,fun _=>E.Fr j,fun _=>E.To j,fun _=>E.Kd j,fun _=>E.Ln j,fun _=>E.Up j,fun _=>E.Dn j,fun _=>E.Sc j,fun _=>E.Wd j,fun _=>E.Ht j,fun _=>E.CA j,fun _=>E.CN j,fun _=>E.CC j,fun _=>E.CX j,fun _=>E.CY j⟩
theorem nd1K_rec (C:Nds) (i:Nat):recN (nd1K C i) 1=[zA7 C i]:=rfl
theorem lk1K_rec (E:Lks) (j:Nat):recL (lk1K E j) 1=[zA5 E j]:=rfl
theorem nd1K_in {w:World} {C:Nds} {i g:Nat} (h:Blk w g 30 (cNd C i)) (ht:TabIn w (C.SA i) (C.SN i) (C.SX i) (C.SY i)):NdIn w (some ⟨g,0,none⟩) 1 (nd1K C i):=by
 refine ⟨by omega,.inr ⟨g,0,rfl,h.lt,fun k hk=>?_⟩⟩
 obtain rfl:k=0:=by omega
 exact ⟨h.cells,ht⟩
theorem lk1K_in {w:World} {E:Lks} {j g:Nat} (h:Blk w g 32 (cLk E j)) (ht:TabIn w (E.CA j) (E.CN j) (E.CX j) (E.CY j)):LkIn w (some ⟨g,0,none⟩) 1 (lk1K E j):=by
 refine ⟨by omega,.inr ⟨g,0,rfl,h.lt,fun k hk=>?_⟩⟩
 obtain rfl:k=0:=by omega
 exact ⟨h.cells,ht⟩
theorem nd_none (w:World) (D:Nds):NdIn w none 0 D:=⟨by omega,.inl rfl⟩
theorem zU3 (w:World) (K:Lks):LkIn w none 0 K:=⟨by omega,.inl rfl⟩
set_option maxRecDepth 100000 in
set_option maxHeartbeats 4000000 in
theorem sc_alone (C:Nds) (i:Nat) (w:World):Calls Tryz.prog 96 #[.agg (cNd C i)] w fun e w'=>∃g,e= .returned (.agg #[.slice (some ⟨g,0,none⟩) 1 1,.slice none 0 0])∧Blk w' g 30 (cNd C i)∧Below w.heap.size w w':=by
 have HX:Hid (Blk ((w.alloc (Obj.cells (cNd C i) 30)).alloc (Obj.cells #[.slice none 0 0,.slice none 0 0] 52)) w.heap.size 30 (cNd C i)):=(Blk.new _ _ _).alloc _
 have HR:Hid (Blk ((w.alloc (Obj.cells (cNd C i) 30)).alloc (Obj.cells #[.slice none 0 0,.slice none 0 0] 52)) (w.heap.size+1) 52 #[.slice none 0 0,.slice none 0 0]):=by have h:=Blk.new (w.alloc (Obj.cells (cNd C i) 30)) 52 #[.slice none 0 0,.slice none 0 0];rw [zB0] at h;exact h
 have HAL:Hid (Below w.heap.size w ((w.alloc (Obj.cells (cNd C i) 30)).alloc (Obj.cells #[.slice none 0 0,.slice none 0 0] 52))):=((bR _ w).alloc (nl _) _).alloc (by simp) _
 go_enter Tryz.func96,Tryz.ntmps96
 go_upto_region 1 with fail
 generalize (w.alloc (Obj.cells (cNd C i) 30)).alloc (Obj.cells #[.slice none 0 0,.slice none 0 0] 52)=W at HX HR HAL⊢
 obtain ⟨x0,x1,x2,x3,x4,x5,x6,x7,x8⟩:=blk9 HX.out
 have HRA:=LH (HR.out.alloc (Obj.cells (cNd C i) 30))
 obtain ⟨d0,d1⟩:=blk2 HRA.out
 have h0:=HRA.out.frozen 0
 have h1:=HRA.out.frozen 1
 have HQ:Hid (Blk (((W.alloc (Obj.cells (cNd C i) 30)).setCell ⟨w.heap.size+1,0,none⟩ (.slice (some ⟨W.heap.size,0,none⟩) 1 1)).setCell ⟨w.heap.size+1,1,none⟩ (.slice none 0 0)) W.heap.size 30 (cNd C i)):=((Blk.new W _ _).far (p:=⟨w.heap.size+1,0,none⟩) (by have:=HR.out.lt;show W.heap.size≠w.heap.size+1;omega) _).far (p:=⟨w.heap.size+1,1,none⟩) (by have:=HR.out.lt;show W.heap.size≠w.heap.size+1;omega) _
 have HZ:Hid (Blk (((W.alloc (Obj.cells (cNd C i) 30)).setCell ⟨w.heap.size+1,0,none⟩ (.slice (some ⟨W.heap.size,0,none⟩) 1 1)).setCell ⟨w.heap.size+1,1,none⟩ (.slice none 0 0)) (w.heap.size+1) 52 #[.slice (some ⟨W.heap.size,0,none⟩) 1 1,.slice none 0 0]):=((HR.out.alloc _).set_ 0 _).set_ 1 _
 obtain ⟨z0,z1⟩:=blk2 HZ.out
 have HBE:Hid (Below w.heap.size w (((W.alloc (Obj.cells (cNd C i) 30)).setCell ⟨w.heap.size+1,0,none⟩ (.slice (some ⟨W.heap.size,0,none⟩) 1 1)).setCell ⟨w.heap.size+1,1,none⟩ (.slice none 0 0))):=((HAL.out.alloc HAL.out.size _).setCell (p:=⟨w.heap.size+1,0,none⟩) (by show w.heap.size≤w.heap.size+1;omega) _).setCell (p:=⟨w.heap.size+1,1,none⟩) (by show w.heap.size≤w.heap.size+1;omega) _
 go_wp2_with fail
 refine bodyPost_ret (v:=.agg #[.slice (some ⟨W.heap.size,0,none⟩) 1 1,.slice none 0 0]) (by simp [results,Tryz.results96,go_sem,z0,z1]) rfl ?_
 exact ⟨W.heap.size,rfl,HQ.out,HBE.out⟩
theorem netS_one {C C':Nds} {i i':Nat} {K K':Lks}:netS (nd1K C i) 1 K 0 (nd1K C' i') 1 K' 0↔zA7 C i=zA7 C' i':=by
 unfold netS
 rw [nd1K_rec,nd1K_rec]
 simp [recL]
theorem netS_onl {E E':Lks} {j j':Nat} {D D':Nds}:netS D 0 (lk1K E j) 1 D' 0 (lk1K E' j') 1↔zA5 E j=zA5 E' j':=by
 unfold netS
 rw [lk1K_rec,lk1K_rec]
 simp [recN]
set_option maxRecDepth 100000 in
set_option maxHeartbeats 4000000 in
theorem zN9 (C C':Nds) (i i':Nat) (w:World) (h1:TabIn w (C.SA i) (C.SN i) (C.SX i) (C.SY i)) (h2:TabIn w (C'.SA i') (C'.SN i') (C'.SX i') (C'.SY i')):
 Calls Tryz.prog 78 #[.agg (cNd C i),.agg (cNd C' i')] w fun e w'=>e= .returned (.bool (boolOf (zA7 C i=zA7 C' i')))∧Below w.heap.size w w':=by
 have H1:=LH h1
 have H2:=LH h2
 obtain ⟨V,hV⟩:∃V,boolOf (zA7 C i=zA7 C' i')=V:=⟨_,rfl⟩
 have HV:=LH hV
 rw [hV]
 clear h1 h2 hV
 have HX:Hid (Blk ((w.alloc (Obj.cells (cNd C i) 30)).alloc (Obj.cells (cNd C' i') 30)) w.heap.size 30 (cNd C i)):=(Blk.new _ _ _).alloc _
 have HY:Hid (Blk ((w.alloc (Obj.cells (cNd C i) 30)).alloc (Obj.cells (cNd C' i') 30)) (w.heap.size+1) 30 (cNd C' i')):=by have h:=Blk.new (w.alloc (Obj.cells (cNd C i) 30)) 30 (cNd C' i');rw [zB0] at h;exact h
 have HAL:Hid (Below w.heap.size w ((w.alloc (Obj.cells (cNd C i) 30)).alloc (Obj.cells (cNd C' i') 30))):=((bR _ w).alloc (nl _) _).alloc (by simp) _
 go_enter Tryz.func78,Tryz.ntmps78
 go_upto_region 1 with fail
 generalize (w.alloc (Obj.cells (cNd C i) 30)).alloc (Obj.cells (cNd C' i') 30)=W at HX HY HAL⊢
 have HS:Hid (∀w',Below W.heap.size W w'→w'.cell? ⟨w.heap.size,0,none⟩=some (.string (C.Nm i))∧w'.cell? ⟨w.heap.size,1,none⟩=some (.int .i64 (C.Kd i))∧w'.cell? ⟨w.heap.size,2,none⟩=some (.int .i64 (C.Ax i))∧w'.cell? ⟨w.heap.size,3,none⟩=some (.int .i64 (C.Ay i))∧w'.cell? ⟨w.heap.size,4,none⟩=some (.int .i64 (C.Iv i))∧w'.cell? ⟨w.heap.size,5,none⟩=some (.int .i64 (C.Gd i))∧w'.cell? ⟨w.heap.size,6,none⟩=some (.slice (C.SA i) (C.SN i) (C.SC i))∧w'.cell? ⟨w.heap.size,7,none⟩=some (.bool (C.Pt i))∧w'.cell? ⟨w.heap.size,8,none⟩=some (.int .i64 (C.Rs i))∧w'.cell? ⟨w.heap.size+1,0,none⟩=some (.string (C'.Nm i'))∧w'.cell? ⟨w.heap.size+1,1,none⟩=some (.int .i64 (C'.Kd i'))∧w'.cell? ⟨w.heap.size+1,2,none⟩=some (.int .i64 (C'.Ax i'))∧w'.cell? ⟨w.heap.size+1,3,none⟩=some (.int .i64 (C'.Ay i'))∧w'.cell? ⟨w.heap.size+1,4,none⟩=some (.int .i64 (C'.Iv i'))∧w'.cell? ⟨w.heap.size+1,5,none⟩=some (.int .i64 (C'.Gd i'))∧w'.cell? ⟨w.heap.size+1,6,none⟩=some (.slice (C'.SA i') (C'.SN i') (C'.SC i'))∧w'.cell? ⟨w.heap.size+1,7,none⟩=some (.bool (C'.Pt i'))∧w'.cell? ⟨w.heap.size+1,8,none⟩=some (.int .i64 (C'.Rs i'))):=fun w' hb=>by
  obtain ⟨x0,x1,x2,x3,x4,x5,x6,x7,x8⟩:=blk9 (HX.out.call hb)
  obtain ⟨y0,y1,y2,y3,y4,y5,y6,y7,y8⟩:=blk9 (HY.out.call hb)
  exact ⟨x0,x1,x2,x3,x4,x5,x6,x7,x8,y0,y1,y2,y3,y4,y5,y6,y7,y8⟩
 clear HX HY
 go_region_held3 (fun w'=>w'.cell? ⟨w.heap.size,0,none⟩=some (.string (C.Nm i))∧w'.cell? ⟨w.heap.size,1,none⟩=some (.int .i64 (C.Kd i))∧w'.cell? ⟨w.heap.size,2,none⟩=some (.int .i64 (C.Ax i))∧w'.cell? ⟨w.heap.size,3,none⟩=some (.int .i64 (C.Ay i))∧w'.cell? ⟨w.heap.size,4,none⟩=some (.int .i64 (C.Iv i))∧w'.cell? ⟨w.heap.size,5,none⟩=some (.int .i64 (C.Gd i))∧w'.cell? ⟨w.heap.size,6,none⟩=some (.slice (C.SA i) (C.SN i) (C.SC i))∧w'.cell? ⟨w.heap.size,7,none⟩=some (.bool (C.Pt i))∧w'.cell? ⟨w.heap.size,8,none⟩=some (.int .i64 (C.Rs i))∧w'.cell? ⟨w.heap.size+1,0,none⟩=some (.string (C'.Nm i'))∧w'.cell? ⟨w.heap.size+1,1,none⟩=some (.int .i64 (C'.Kd i'))∧w'.cell? ⟨w.heap.size+1,2,none⟩=some (.int .i64 (C'.Ax i'))∧w'.cell? ⟨w.heap.size+1,3,none⟩=some (.int .i64 (C'.Ay i'))∧w'.cell? ⟨w.heap.size+1,4,none⟩=some (.int .i64 (C'.Iv i'))∧w'.cell? ⟨w.heap.size+1,5,none⟩=some (.int .i64 (C'.Gd i'))∧w'.cell? ⟨w.heap.size+1,6,none⟩=some (.slice (C'.SA i') (C'.SN i') (C'.SC i'))∧w'.cell? ⟨w.heap.size+1,7,none⟩=some (.bool (C'.Pt i'))∧w'.cell? ⟨w.heap.size+1,8,none⟩=some (.int .i64 (C'.Rs i'))) (first
  |exact HS.out _ hq6
  |exact HS.out _ hq5
  |exact HS.out _ hq4
  |exact HS.out _ (bR W.heap.size W).drew) (first
  |(go_at_call 96
    with_reducible refine (sc_alone C i _).mono ?_
    rintro e w4 ⟨g4,rfl,hk4,hb4⟩
    have hq4:Below W.heap.size W w4:=by first |exact hb4 |exact (bR W.heap.size W).drew.trans hb4
    have HK4:=LH hk4
    have HB4:=LH (zA1 HAL.out hq4)
    clear hk4 hb4)
  |(go_at_call 96
    with_reducible refine (sc_alone C' i' _).mono ?_
    rintro e w5 ⟨g5,rfl,hk5,hb5⟩
    have hq5:Below W.heap.size W w5:=zA1 hq4 hb5
    have HK5:=LH hk5
    have HK4:=LH (HK4.out.call hb5)
    have HB5:=LH (zA1 HB4.out hb5)
    clear hk5 hb5)
  |(go_at_call 127
    with_reducible refine (nsameNet _ none _ none 1 1 0 0 1 1 0 0 (nd1K C i) (nd1K C' i') zKl zKl _ (by omega) (by omega) (nd1K_in HK4.out (H1.out.below (nl _) HB5.out)) (zU3 _ _) (nd1K_in HK5.out (H2.out.below (nl _) HB5.out)) (zU3 _ _)).mono ?_
    rintro e w6 ⟨rfl,hb6⟩
    rw [show boolOf (netS (nd1K C i) 1 zKl 0 (nd1K C' i') 1 zKl 0)=V from (congrArg boolOf (propext netS_one)).trans HV.out]
    have hq6:Below W.heap.size W w6:=zA1 hq5 hb6
    have HB6:=LH (zA1 HB5.out hb6)
    clear hb6))
 all_goals
  go_wp2_with fail
  go_ret
  exact ⟨rfl,HB6.out⟩
set_option maxRecDepth 100000 in
set_option maxHeartbeats 4000000 in
theorem zT0 (E E':Lks) (j j':Nat) (w:World) (h1:TabIn w (E.CA j) (E.CN j) (E.CX j) (E.CY j)) (h2:TabIn w (E'.CA j') (E'.CN j') (E'.CX j') (E'.CY j')):
 Calls Tryz.prog 77 #[.agg (cLk E j),.agg (cLk E' j')] w fun e w'=>e= .returned (.bool (boolOf (zA5 E j=zA5 E' j')))∧Below w.heap.size w w':=by
 have H1:=LH h1
 have H2:=LH h2
 obtain ⟨V,hV⟩:∃V,boolOf (zA5 E j=zA5 E' j')=V:=⟨_,rfl⟩
 have HV:=LH hV
 rw [hV]
 clear h1 h2 hV
 have HX:Hid (Blk ((w.alloc (Obj.cells (cLk E j) 32)).alloc (Obj.cells (cLk E' j') 32)) w.heap.size 32 (cLk E j)):=(Blk.new _ _ _).alloc _
 have HY:Hid (Blk ((w.alloc (Obj.cells (cLk E j) 32)).alloc (Obj.cells (cLk E' j') 32)) (w.heap.size+1) 32 (cLk E' j')):=by have h:=Blk.new (w.alloc (Obj.cells (cLk E j) 32)) 32 (cLk E' j');rw [zB0] at h;exact h
 have HAL:Hid (Below w.heap.size w ((w.alloc (Obj.cells (cLk E j) 32)).alloc (Obj.cells (cLk E' j') 32))):=((bR _ w).alloc (nl _) _).alloc (by simp) _
 go_enter Tryz.func77,Tryz.ntmps77
 go_upto_region 1 with fail
 generalize (w.alloc (Obj.cells (cLk E j) 32)).alloc (Obj.cells (cLk E' j') 32)=W at HX HY HAL⊢
 obtain ⟨x0,x1,x2,x3,x4,x5,x6,x7,x8,x9,x10⟩:=zC5 HX.out
 obtain ⟨y0,y1,y2,y3,y4,y5,y6,y7,y8,y9,y10⟩:=zC5 (HY.out.alloc (Obj.cells (cLk E j) 32))
 have HQ:Hid (Blk ((W.alloc (Obj.cells (cLk E j) 32)).alloc (Obj.cells (cLk E' j') 32)) W.heap.size 32 (cLk E j)):=(Blk.new _ _ _).alloc _
 have HP:Hid (Blk ((W.alloc (Obj.cells (cLk E j) 32)).alloc (Obj.cells (cLk E' j') 32)) (W.heap.size+1) 32 (cLk E' j')):=by have h:=Blk.new (W.alloc (Obj.cells (cLk E j) 32)) 32 (cLk E' j');rw [zB0] at h;exact h
 have HB5:Hid (Below w.heap.size w ((W.alloc (Obj.cells (cLk E j) 32)).alloc (Obj.cells (cLk E' j') 32))):=(HAL.out.alloc HAL.out.size _).alloc (by have:=HAL.out.size;simp;omega) _
 go_wp2_with (first
  |(go_at_call 127
    refine (nsameNet none (some ⟨W.heap.size,0,none⟩) none (some ⟨W.heap.size+1,0,none⟩) 0 0 1 1 0 0 1 1 zDn zDn (lk1K E j) (lk1K E' j') _ (by omega) (by omega) (nd_none _ _) (lk1K_in HQ.out (H1.out.below (nl _) HB5.out)) (nd_none _ _) (lk1K_in HP.out (H2.out.below (nl _) HB5.out))).mono ?_
    rintro e w6 ⟨rfl,hb6⟩
    rw [show boolOf (netS zDn 0 (lk1K E j) 1 zDn 0 (lk1K E' j') 1)=V from (congrArg boolOf (propext netS_onl)).trans HV.out]
    have HB6:=LH (zA1 HB5.out hb6)
    clear hb6))
 go_ret
 exact ⟨rfl,HB6.out⟩
set_option maxRecDepth 100000 in
set_option maxHeartbeats 4000000 in
theorem sc_long (kd:Int) (i j:Nat) (C:Nds) (E:Lks) (w:World):
 Calls Tryz.prog 12 #[.agg (chA kd C i E j)] w fun e w'=>e= .returned (.bool (boolOf (lgnP C i∨lgkP E j)))∧Below w.heap.size w w':=by
 have HX:Hid (Blk (w.alloc (Obj.cells (chA kd C i E j) 34)) w.heap.size 34 (chA kd C i E j)):=Blk.new _ _ _
 have HAL:Hid (Below w.heap.size w (w.alloc (Obj.cells (chA kd C i E j) 34))):=(bR _ w).alloc (nl _) _
 by_cases h1:lgnP C i
 ·rw [zA2 (show lgnP C i∨lgkP E j from .inl h1)]
  have S1:=LH (zR9 (C.Nm i) (C.Kd i) (C.Ax i) (C.Ay i) (C.Iv i) (C.Gd i) (C.SA i) (C.SN i) (C.SC i) (C.Pt i) (C.Rs i) true (dU (p:=100<(C.Nm i).size∨120<C.SN i) h1).symm)
  clear h1
  go_enter Tryz.func12,Tryz.ntmps12
  go_upto_region 1 with fail
  generalize w.alloc (Obj.cells (chA kd C i E j) 34)=W at HX HAL⊢
  obtain ⟨x0,x1,x2,x3,x4,x5,x6,x7,x8⟩:=chgN HX.out
  go_wp2_with (first
   |(go_at_call 43
     with_reducible refine (S1.out _).mono ?_
     rintro e w4 ⟨rfl,hb4⟩
     have HB4:=LH (zA1 HAL.out hb4)
     clear hb4))
  go_ret
  exact ⟨rfl,HB4.out⟩
 have S1:=LH (zR9 (C.Nm i) (C.Kd i) (C.Ax i) (C.Ay i) (C.Iv i) (C.Gd i) (C.SA i) (C.SN i) (C.SC i) (C.Pt i) (C.Rs i) false (dF (p:=100<(C.Nm i).size∨120<C.SN i) h1).symm)
 obtain ⟨V,hV⟩:∃V,boolOf (lgnP C i∨lgkP E j)=V:=⟨_,rfl⟩
 have hV2:V=decide (100<(E.Nm j).size∨100<(E.Fr j).size∨100<(E.To j).size∨100<(E.Sc j).size∨120<E.CN j):=by
  rw [←hV]
  by_cases h2:lgkP E j
  ·rw [zA2 (.inr h2)];exact (dU (p:=100<(E.Nm j).size∨100<(E.Fr j).size∨100<(E.To j).size∨100<(E.Sc j).size∨120<E.CN j) h2).symm
  ·rw [zA0 (fun h=>h.elim h1 h2)];exact (dF (p:=100<(E.Nm j).size∨100<(E.Fr j).size∨100<(E.To j).size∨100<(E.Sc j).size∨120<E.CN j) h2).symm
 have S2:=LH (p_sllink (E.Nm j) (E.Fr j) (E.To j) (E.Kd j) (E.Ln j) (E.Up j) (E.Dn j) (E.Sc j) (E.Wd j) (E.Ht j) (E.CA j) (E.CN j) (E.CC j) V hV2)
 rw [hV]
 clear h1 hV hV2
 go_enter Tryz.func12,Tryz.ntmps12
 go_upto_region 1 with fail
 generalize w.alloc (Obj.cells (chA kd C i E j) 34)=W at HX HAL⊢
 obtain ⟨x0,x1,x2,x3,x4,x5,x6,x7,x8⟩:=chgN HX.out
 go_wp2_with (first
  |(go_at_call 43
    with_reducible refine (S1.out _).mono ?_
    rintro e w4 ⟨rfl,hb4⟩
    obtain ⟨y0,y1,y2,y3,y4,y5,y6,y7,y8,y9,y10⟩:=chgL (HX.out.call hb4)
    have HB4:=LH (zA1 HAL.out hb4)
    clear hb4)
  |(go_at_call 44
    with_reducible refine (S2.out _).mono ?_
    rintro e w5 ⟨rfl,hb5⟩
    have HB5:=LH (zA1 HB4.out hb5)
    clear hb5))
 go_ret
 exact ⟨rfl,HB5.out⟩
set_option maxRecDepth 100000 in
set_option maxHeartbeats 8000000 in
theorem sc_plain_of (kd kd':Int) (i j i' j':Nat) (C C':Nds) (E E':Lks) (w:World) (h1:TabIn w (C.SA i) (C.SN i) (C.SX i) (C.SY i)) (h2:TabIn w (E.CA j) (E.CN j) (E.CX j) (E.CY j)) (h3:TabIn w (C'.SA i') (C'.SN i') (C'.SX i') (C'.SY i')) (h4:TabIn w (E'.CA j') (E'.CN j') (E'.CX j') (E'.CY j'))
 (SU0:∀w',Calls Tryz.prog 99 #[.agg (chA kd C i E j)] w' fun e w''=>e= .returned (.agg (chA kd' C' i' E' j'))∧Below w'.heap.size w' w''):
 Calls Tryz.prog 57 #[.agg (chA kd C i E j)] w fun e w'=>e= .returned (.bool (boolOf (zA7 C i=zA7 C' i'∧zA5 E j=zA5 E' j')))∧Below w.heap.size w w':=by
 have SU:=LH SU0
 have HX:Hid (Blk (w.alloc (Obj.cells (chA kd C i E j) 34)) w.heap.size 34 (chA kd C i E j)):=Blk.new _ _ _
 have HAL:Hid (Below w.heap.size w (w.alloc (Obj.cells (chA kd C i E j) 34))):=(bR _ w).alloc (nl _) _
 obtain ⟨P,hP⟩:∃P,boolOf (zA7 C i=zA7 C' i')=P:=⟨_,rfl⟩
 obtain ⟨Q,hQ⟩:∃Q,boolOf (zA5 E j=zA5 E' j')=Q:=⟨_,rfl⟩
 have S1:Hid (∀w',Below w.heap.size w w'→Calls Tryz.prog 78 #[.agg (cNd C i),.agg (cNd C' i')] w' fun e w''=>e= .returned (.bool P)∧Below w'.heap.size w' w''):=fun w' hb=>by rw [←hP];exact zN9 C C' i i' w' (h1.below (nl _) hb) (h3.below (nl _) hb)
 have S2:Hid (∀w',Below w.heap.size w w'→Calls Tryz.prog 77 #[.agg (cLk E j),.agg (cLk E' j')] w' fun e w''=>e= .returned (.bool Q)∧Below w'.heap.size w' w''):=fun w' hb=>by rw [←hQ];exact zT0 E E' j j' w' (h2.below (nl _) hb) (h4.below (nl _) hb)
 have hval:boolOf (zA7 C i=zA7 C' i'∧zA5 E j=zA5 E' j')=(P&&Q):=by
  rw [←hP,←hQ]
  refine (zI3 ?_).symm
  rw [Bool.and_eq_true,zG4,zG4]
 rw [hval]
 clear hP hQ hval h1 h2 h3 h4 SU0
 go_enter Tryz.func57,Tryz.ntmps57
 go_upto_region 1 with fail
 generalize w.alloc (Obj.cells (chA kd C i E j) 34)=W at HX HAL⊢
 go_upto_region 2 with (first
  |(refine wpList_load_row rfl 34 (.tmp 1) rfl _ rfl _ _ (0,0) _ HX.out Tryz.underlying34 rfl (by kernel_rfl) ?_)
  |(go_at_call 99
    with_reducible refine (SU.out _).mono ?_
    rintro e w4 ⟨rfl,hb4⟩
    have HX4:=LH (HX.out.call hb4)
    have HB4:=LH (zA1 HAL.out hb4)
    clear hb4)
  |(refine wpList_store_row rfl 34 (.tmp 3) (.tmp 5) rfl w4.heap.size (chA kd' C' i' E' j') rfl rfl _ _ (Blk.new w4 _ _) (by kernel_rfl) rfl (by kernel_rfl) ?_))
 have HX5:Hid (Blk ((w4.alloc (Obj.cells cZc 34)).setRow w4.heap.size (chA kd' C' i' E' j')) w.heap.size 34 (chA kd C i E j)):=(HX4.out.alloc _).farRow (by have:=HX4.out.lt;omega) _
 have HY5:Hid (Blk ((w4.alloc (Obj.cells cZc 34)).setRow w4.heap.size (chA kd' C' i' E' j')) w4.heap.size 34 (chA kd' C' i' E' j')):=(Blk.new w4 34 _).setRow
 have HB5:Hid (Below w.heap.size w ((w4.alloc (Obj.cells cZc 34)).setRow w4.heap.size (chA kd' C' i' E' j'))):=zB4 (HB4.out.alloc HB4.out.size _) (Blk.new w4 34 _) HB4.out.size
 clear HX HX4 HB4 HAL SU
 generalize (w4.alloc (Obj.cells cZc 34)).setRow w4.heap.size (chA kd' C' i' E' j')=W5 at HX5 HY5 HB5⊢
 generalize w4.heap.size=G at HY5⊢
 obtain ⟨x0,x1,x2,x3,x4,x5,x6,x7,x8⟩:=chgN HX5.out
 obtain ⟨y0,y1,y2,y3,y4,y5,y6,y7,y8⟩:=chgN HY5.out
 cases P<;> cases Q
 all_goals
  go_wp2_with (first
   |(go_at_call 78
     with_reducible refine (S1.out _ HB5.out).mono ?_
     rintro e w6 ⟨rfl,hb6⟩
     obtain ⟨x10,x11,x12,x13,x14,x15,x16,x17,x18,x19,x20⟩:=chgL (HX5.out.call hb6)
     obtain ⟨y10,y11,y12,y13,y14,y15,y16,y17,y18,y19,y20⟩:=chgL (HY5.out.call hb6)
     have HB6:=LH (zA1 HB5.out hb6)
     clear hb6)
   |(go_at_call 77
     with_reducible refine (S2.out _ HB6.out).mono ?_
     rintro e w7 ⟨rfl,hb7⟩
     have HB7:=LH (zA1 HB6.out hb7)
     clear hb7))
  go_ret
  exact ⟨rfl,by first |exact HB7.out |exact HB6.out⟩
set_option maxRecDepth 100000 in
set_option maxHeartbeats 8000000 in
theorem p_dlink (K E:Lks) (i j g:Nat) (w:World) (hb:Blk w g 32 (cLk E j)) (h1:TabIn w (K.CA i) (K.CN i) (K.CX i) (K.CY i)) (h2:TabIn w (E.CA j) (E.CN j) (E.CX j) (E.CY j)):
 Calls Tryz.prog 76 #[.agg (cLk K i),.pointer (some ⟨g,0,none⟩)] w fun e w'=>e= .returned (.bool (boolOf (zA5 K i=zA5 E j)))∧Below w.heap.size w w':=by
 have S2:Hid (∀w',Below w.heap.size w w'→Calls Tryz.prog 77 #[.agg (cLk K i),.agg (cLk E j)] w' fun e w''=>e= .returned (.bool (boolOf (zA5 K i=zA5 E j)))∧Below w'.heap.size w' w''):=fun w' hb=>zT0 K E i j w' (h1.below (nl _) hb) (h2.below (nl _) hb)
 have HX:Hid (Blk (w.alloc (Obj.cells (cLk K i) 32)) w.heap.size 32 (cLk K i)):=Blk.new _ _ _
 have HG:=LH (hb.alloc (Obj.cells (cLk K i) 32))
 have HAL:Hid (Below w.heap.size w (w.alloc (Obj.cells (cLk K i) 32))):=(bR _ w).alloc (nl _) _
 clear hb h1 h2
 go_enter Tryz.func76,Tryz.ntmps76
 go_upto_region 1 with fail
 generalize w.alloc (Obj.cells (cLk K i) 32)=W at HX HG HAL⊢
 go_wp2_with (first
  |(refine wpList_load_row rfl 32 (.tmp 2) rfl _ rfl _ _ (0,0) _ HX.out Tryz.underlying32 rfl (by kernel_rfl) ?_)
  |(refine wpList_load_row rfl 32 (.tmp 1) rfl _ rfl _ _ (0,0) _ HG.out Tryz.underlying32 rfl (by kernel_rfl) ?_)
  |(go_at_call 77
    with_reducible refine (S2.out _ HAL.out).mono ?_
    rintro e w4 ⟨rfl,hb4⟩
    have HB4:=LH (zA1 HAL.out hb4)
    clear hb4))
 go_ret
 exact ⟨rfl,HB4.out⟩
set_option maxRecDepth 100000 in
set_option maxHeartbeats 4000000 in
theorem find_dlink (A:Option Addr) (n c k:Nat) (K E:Lks) (j g:Nat) (w:World) (h2:n≤2000) (ht:LkIn w A n K) (hg:Blk w g 32 (cLk E j)) (hj:TabIn w (E.CA j) (E.CN j) (E.CX j) (E.CY j)) (hk:FirstAt (fun i=>boolOf (zA5 K i=zA5 E j)) n k) (v:Int) (hv:v=if k<n then (k:Int) else -1):
 Calls Tryz.prog 111 #[.slice A n c,.func (.func 76) #[] #[.pointer (some ⟨g,0,none⟩)]] w fun e w'=>e= .returned (.int .i64 v)∧Below w.heap.size w w':=by
 have HT:=LH ht
 have HK:=LH hk
 have H2:=LH h2
 have HV:=LH hv
 have HG:=LH hg
 have HJ:=LH hj
 clear hg hj ht hk h2 hv
 go_enter Tryz.func111,Tryz.ntmps111
 go_wp2_with fail
 go_loopw [8] (fun u wr=>∃i:Nat,Hid (i≤n∧i≤k)∧u= .int .i64 i∧Hid (Below w.heap.size w wr)) (fun u _=>n - (RowKit.intOf u).toNat)
 case atStart=>exact ⟨0,⟨Nat.zero_le _,Nat.zero_le _⟩,rfl,bR _ _⟩
 case round=>
  obtain ⟨i,Hi,rfl,HW⟩:=hrel
  by_cases hlt:i<n
  ·have T0:decide ((i:Int)<(n:Int))=true:=by simp<;> omega
   have T0':decide (i<n)=true:=dU hlt
   obtain ⟨i',hi'⟩:∃z,z=i+1:=⟨_,rfl⟩
   have x0:IntKind.i64.wrap ((i:Int)+1)=(i':Int):=by have:=H2.out;rw [IntKind.wrap_i64];omega
   obtain ⟨b,off,rfl,hb,hC,htab⟩:=(HT.out.below (nl _) HW.out).at hlt
   have c0:=hC 0 _ rfl
   have c1:=hC 1 _ rfl
   have c2:=hC 2 _ rfl
   have c3:=hC 3 _ rfl
   have c4:=hC 4 _ rfl
   have c5:=hC 5 _ rfl
   have c6:=hC 6 _ rfl
   have c7:=hC 7 _ rfl
   have c8:=hC 8 _ rfl
   have c9:=hC 9 _ rfl
   have c10:=hC 10 _ rfl
   have k0:(0:Int)≤(i:Int):=by omega
   have k1:(i:Int)<(n:Int):=by omega
   have HMS:Hid (n - (RowKit.intOf (Value.int .i64 (i':Int))).toNat<n - (RowKit.intOf (Value.int .i64 (i:Int))).toNat):=by show _<_;simp [RowKit.intOf];omega
   have KK:=LH (p_dlink K E i j g wr (HG.out.call HW.out) htab (HJ.out.below (nl _) HW.out))
   rcases zD7 HK.out hlt Hi.out.2 with ⟨hp,hik⟩|⟨hp,hik⟩
   ·rw [hp] at KK
    have HR:Hid ((i:Int)=v):=by show (i:Int)=v;rw [HV.out,hik,if_pos (by omega)]
    simp only [Nat.add_zero] at c0
    clear hi' hp hik hC htab
    go_wp2_with (first |(go_at_call 76;(with_reducible refine (KK.out).mono ?_);rintro e w1 ⟨rfl,hb1⟩;obtain ⟨hc1,hf1⟩:=zA8 hb1;have hz1:=hb1.size;(try simp at hz1);(try simp only [heap_drew,World.heap_drewN] at hz1 hc1 hf1);(try have hs1:=Nat.lt_of_succ_le hz1);(try have hs2:=Nat.lt_of_succ_lt hs1);(try have y0:w.heap.size<w1.heap.size:=by omega);(try have y1:w.heap.size+1<w1.heap.size:=by omega);(try have y2:w.heap.size+2<w1.heap.size:=by omega)))
    go_ret
    refine ⟨zC3 HR.out,?_⟩
    have:=HW.out
    exact bel
   ·rw [hp] at KK
    have HI':Hid (i'≤n∧i'≤k):=by show _∧_;omega
    simp only [Nat.add_zero] at c0
    clear hi' hp hik hC htab
    go_wp2_with (first |(go_at_call 76;(with_reducible refine (KK.out).mono ?_);rintro e w1 ⟨rfl,hb1⟩;obtain ⟨hc1,hf1⟩:=zA8 hb1;have hz1:=hb1.size;(try simp at hz1);(try simp only [heap_drew,World.heap_drewN] at hz1 hc1 hf1);(try have hs1:=Nat.lt_of_succ_le hz1);(try have hs2:=Nat.lt_of_succ_lt hs1);(try have y0:w.heap.size<w1.heap.size:=by omega);(try have y1:w.heap.size+1<w1.heap.size:=by omega);(try have y2:w.heap.size+2<w1.heap.size:=by omega)))
    go_roundw
    case rel=>exact ⟨i',HI',rfl,by have:=HW.out;exact bel⟩
    case measure=>exact HMS.out
  ·have e:i=n:=by have:=Hi.out;omega
   have HR:Hid ((-1:Int)=v):=by show (-1:Int)=v;rw [HV.out,if_neg (by have:=Hi.out;omega)]
   have T0:decide ((i:Int)<(n:Int))=false:=by simp<;> omega
   have T0':decide (i<n)=false:=dF hlt
   clear e hlt
   go_wp2_with fail
   go_ret
   exact ⟨zC3 HR.out,HW.out⟩
theorem has_dlink (A:Option Addr) (n c:Nat) (K E:Lks) (j g:Nat) (w:World) (h2:n≤2000) (ht:LkIn w A n K) (hg:Blk w g 32 (cLk E j)) (hj:TabIn w (E.CA j) (E.CN j) (E.CX j) (E.CY j)) (f:Bool) (hf:f=true↔∃i,i<n∧(fun i=>boolOf (zA5 K i=zA5 E j)) i=true):
 Calls Tryz.prog 67 #[.slice A n c,.func (.func 76) #[] #[.pointer (some ⟨g,0,none⟩)]] w fun e w'=>e= .returned (.bool f)∧Below w.heap.size w w':=by
 obtain ⟨k,hk⟩:=zG8 (fun i=>boolOf (zA5 K i=zA5 E j)) n
 have hany:=zF9 hk
 have S:=LH (find_dlink A n c k K E j g w h2 ht hg hj hk _ rfl)
 by_cases hkn:k<n
 ·have hft:f=true:=hf.2 (hany.1 hkn)
  rw [if_pos hkn] at S
  have t:decide ((0:Int)≤(k:Int))=true:=dU (by omega)
  subst hft
  clear hk hany hkn hf ht h2 hg hj
  go_enter Tryz.func67,Tryz.ntmps67
  go_wp2_with (first |(go_at_call 111;(with_reducible refine (S.out).mono ?_);rintro e w1 ⟨rfl,hb1⟩;obtain ⟨hc1,hf1⟩:=zA8 hb1;have hz1:=hb1.size;(try simp at hz1);(try simp only [heap_drew,World.heap_drewN] at hz1 hc1 hf1);(try have hs1:=Nat.lt_of_succ_le hz1);(try have hs2:=Nat.lt_of_succ_lt hs1);(try have y0:w.heap.size<w1.heap.size:=by omega);(try have y1:w.heap.size+1<w1.heap.size:=by omega);(try have y2:w.heap.size+2<w1.heap.size:=by omega)))
  go_ret
  refine ⟨rfl,?_⟩
  exact bel
 ·have hft:f=false:=by
   cases f with
   |false=>rfl
   |true=>exact absurd (hany.2 (hf.1 rfl)) hkn
  rw [if_neg hkn] at S
  subst hft
  clear hk hany hkn hf ht h2 hg hj
  go_enter Tryz.func67,Tryz.ntmps67
  go_wp2_with (first |(go_at_call 111;(with_reducible refine (S.out).mono ?_);rintro e w1 ⟨rfl,hb1⟩;obtain ⟨hc1,hf1⟩:=zA8 hb1;have hz1:=hb1.size;(try simp at hz1);(try simp only [heap_drew,World.heap_drewN] at hz1 hc1 hf1);(try have hs1:=Nat.lt_of_succ_le hz1);(try have hs2:=Nat.lt_of_succ_lt hs1);(try have y0:w.heap.size<w1.heap.size:=by omega);(try have y1:w.heap.size+1<w1.heap.size:=by omega);(try have y2:w.heap.size+2<w1.heap.size:=by omega)))
  go_ret
  refine ⟨rfl,?_⟩
  exact bel
set_option maxRecDepth 100000 in
set_option maxHeartbeats 4000000 in
theorem sc_has (NA LA:Option Addr) (n nc0 m lc0:Nat) (K E:Lks) (j:Nat) (w:World) (h2:m≤2000) (hK:LkIn w LA m K) (hj:TabIn w (E.CA j) (E.CN j) (E.CX j) (E.CY j)):
 Calls Tryz.prog 75 #[.agg #[.slice NA n nc0,.slice LA m lc0],.agg (cLk E j)] w fun e w'=>e= .returned (.bool (boolOf (zA5 E j∈recL K m)))∧Below w.heap.size w w':=by
 have HAL:Hid (Below w.heap.size w ((w.alloc (Obj.cells #[.slice NA n nc0,.slice LA m lc0] 52)).alloc (Obj.cells (cLk E j) 32))):=((bR _ w).alloc (nl _) _).alloc (by simp) _
 have HN:Hid (Blk ((w.alloc (Obj.cells #[.slice NA n nc0,.slice LA m lc0] 52)).alloc (Obj.cells (cLk E j) 32)) w.heap.size 52 #[.slice NA n nc0,.slice LA m lc0]):=(Blk.new _ _ _).alloc _
 have HL:Hid (Blk ((w.alloc (Obj.cells #[.slice NA n nc0,.slice LA m lc0] 52)).alloc (Obj.cells (cLk E j) 32)) (w.heap.size+1) 32 (cLk E j)):=by have h:=Blk.new (w.alloc (Obj.cells #[.slice NA n nc0,.slice LA m lc0] 52)) 32 (cLk E j);rw [zB0] at h;exact h
 have SH:=LH (has_dlink LA m lc0 K E j (w.heap.size+1) _ h2 (hK.below (nl _) HAL.out) HL.out (hj.below (nl _) HAL.out) (boolOf (zA5 E j∈recL K m)) (by
  rw [zG4,mem_recL]
  constructor
  ·rintro ⟨i,hi,e⟩;exact ⟨i,hi,zA2 e⟩
  ·rintro ⟨i,hi,e⟩;exact ⟨i,hi,zG4.1 e⟩))
 clear h2 hK hj
 go_enter Tryz.func75,Tryz.ntmps75
 go_upto_region 1 with fail
 generalize (w.alloc (Obj.cells #[.slice NA n nc0,.slice LA m lc0] 52)).alloc (Obj.cells (cLk E j) 32)=W at HAL HN HL SH⊢
 obtain ⟨d0,d1⟩:=blk2 HN.out
 go_wp2_with (first
  |(go_at_call 67
    with_reducible refine SH.out.mono ?_
    rintro e w4 ⟨rfl,hb4⟩
    have HB4:=LH (zA1 HAL.out hb4)
    clear hb4))
 go_ret
 exact ⟨rfl,HB4.out⟩
set_option maxRecDepth 100000 in
set_option maxHeartbeats 4000000 in
theorem sc_dnode (NA LA:Option Addr) (n nc0 m lc0:Nat) (D:Nds) (K:Lks) (s:ByteArray) (w:World) (h2:n≤2000) (h3:m≤2000) (hD:NdIn w NA n D) (hK:LkIn w LA m K):
 Calls Tryz.prog 73 #[.agg #[.slice NA n nc0,.slice LA m lc0],.string s] w fun e w'=>e= .returned (.int .i64 (fnd D.Nm n s))∧Below w.heap.size w w':=by
 have HAL:Hid (Below w.heap.size w (w.alloc (Obj.cells #[.slice NA n nc0,.slice LA m lc0] 52))):=(bR _ w).alloc (nl _) _
 have HN:Hid (Blk (w.alloc (Obj.cells #[.slice NA n nc0,.slice LA m lc0] 52)) w.heap.size 52 #[.slice NA n nc0,.slice LA m lc0]):=Blk.new _ _ _
 have SF:=LH (zF1 NA LA none none n nc0 m lc0 0 0 0 0 D K 1 0 0 0 0 0 0 0 0 0 0 0 0 s ⟨#[]⟩ ⟨#[]⟩ ⟨#[]⟩ ⟨#[]⟩ false _ h2 h3 (hD.below (nl _) HAL.out) (hK.below (nl _) HAL.out) (fnd D.Nm n s) (by simp))
 clear h2 h3 hD hK
 go_enter Tryz.func73,Tryz.ntmps73
 go_upto_region 1 with fail
 generalize w.alloc (Obj.cells #[.slice NA n nc0,.slice LA m lc0] 52)=W at HAL HN SF⊢
 obtain ⟨d0,d1⟩:=blk2 HN.out
 go_wp2_with (first
  |(go_at_call 74
    with_reducible refine SF.out.mono ?_
    rintro e w4 ⟨rfl,hb4⟩
    have HB4:=LH (zA1 HAL.out hb4)
    clear hb4))
 go_ret
 exact ⟨rfl,HB4.out⟩
end Go.Proofs.YtchakniaoeodmaaGreatDoor

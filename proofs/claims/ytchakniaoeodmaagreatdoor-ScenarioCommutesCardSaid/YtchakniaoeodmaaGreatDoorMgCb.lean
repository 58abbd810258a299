/- Merged texts of these proofs: ScRh,ScIi. -/
import Derived.Test.YtchakniaoeodmaaGreatDoorMgMs
import Derived.Test.YtchakniaoeodmaaGreatDoorMgP
import Derived.Test.YtchakniaoeodmaaGreatDoorMgCa
import Derived.Test.YtchakniaoeodmaaGreatDoorNetV
import Derived.Test.YtchakniaoeodmaaGreatDoorNetJ
namespace Go.Proofs.YtchakniaoeodmaaGreatDoor
open Go.RowKit
set_option linter.unusedVariables false
set_option linter.unusedSimpArgs false
theorem zz_one {x:Ndr} (h:ZN x):ZZ [x] []:=⟨by simp,by simp,fun y hy=>by rw [List.mem_singleton.1 hy];exact h,fun y hy=>absurd hy (by simp)⟩
theorem zn_end {s:ByteArray} (h:s.size≤maxLen):ZN (endR s):=⟨h,by show 2≤2000;omega⟩
theorem zz_link {l:Lkr} (h:ZL l):ZZ [endR l.fr,endR l.tn] [l]:=⟨by simp,by simp,fun y hy=>by
 rcases List.mem_cons.1 hy with rfl |h2
 ·exact zn_end h.2.1
 ·rw [List.mem_singleton.1 h2]
  exact zn_end h.2.2.1,fun y hy=>by rw [List.mem_singleton.1 hy];exact h⟩
theorem vs_node (C:Nds) (i:Nat) (K:Lks):boolOf (netP (nd1K C i) 1 K 0)=boolOf (VS [zA7 C i] []):=by
 by_cases h:VS [zA7 C i] []
 ·rw [zA2 h,zA2 (VS.to (D:=nd1K C i) (n:=1) (K:=K) (m:=0) h)]
 ·rw [zA0 h,zA0 fun q=>h (VS.of (D:=nd1K C i) (n:=1) (K:=K) (m:=0) q)]
theorem vs_link (E:Lks) (j g h:Nat):boolOf (netP (enK (E.Fr j) (E.To j) g h) 2 (lk1K E j) 1)=boolOf (VS [endR (E.Fr j),endR (E.To j)] [zA5 E j]):=by
 by_cases q:VS [endR (E.Fr j),endR (E.To j)] [zA5 E j]
 ·rw [zA2 q,zA2 (VS.to (D:=enK (E.Fr j) (E.To j) g h) (n:=2) (K:=lk1K E j) (m:=1) q)]
 ·rw [zA0 q,zA0 fun r=>q (VS.of (D:=enK (E.Fr j) (E.To j) g h) (n:=2) (K:=lk1K E j) (m:=1) r)]
theorem boolOf_cong {p q:Prop} (h:p↔q):boolOf p=boolOf q:=by rw [propext h]
theorem rg_n {c:Chr} (h:c.kd=1∨c.kd=2):rgP c↔VS [c.x] []:=by
 unfold rgP
 constructor
 ·rintro (⟨_,q⟩|⟨q,_⟩|⟨q,_⟩|⟨q,_⟩)
  ·exact q
  all_goals omega
 ·exact fun q=>.inl ⟨h,q⟩
theorem rg_l {c:Chr} (h:c.kd=4∨c.kd=5):rgP c↔VS [endR c.l.fr,endR c.l.tn] [c.l]:=by
 unfold rgP
 constructor
 ·rintro (⟨q,_⟩|⟨_,q⟩|⟨q,_⟩|⟨q,_⟩)
  ·omega
  ·exact q
  all_goals omega
 ·exact fun q=>.inr (.inl ⟨h,q⟩)
theorem rg_3 {c:Chr} (h:c.kd=3):rgP c↔zD1 c.x.nm.data.toList=true:=by
 unfold rgP
 constructor
 ·rintro (⟨q,_⟩|⟨q,_⟩|⟨_,q⟩|⟨q,_⟩)
  ·omega
  ·omega
  ·exact q
  ·omega
 ·exact fun q=>.inr (.inr (.inl ⟨h,q⟩))
theorem rg_6 {c:Chr} (h:c.kd=6):rgP c↔zD1 c.l.nm.data.toList=true:=by
 unfold rgP
 constructor
 ·rintro (⟨q,_⟩|⟨q,_⟩|⟨q,_⟩|⟨_,q⟩)
  ·omega
  ·omega
  ·omega
  ·exact q
 ·exact fun q=>.inr (.inr (.inr ⟨h,q⟩))
set_option maxRecDepth 100000 in
set_option maxHeartbeats 8000000 in
theorem sc_right1 (i j:Nat) (C:Nds) (E:Lks) (w:World) (hx:ZN (zA7 C i)) (hl:ZL (zA5 E j)) (hTx:TabIn w (C.SA i) (C.SN i) (C.SX i) (C.SY i)) (hTl:TabIn w (E.CA j) (E.CN j) (E.CX j) (E.CY j)):
 Calls Tryz.prog 51 #[.agg (chA 1 C i E j)] w fun e w'=>e= .returned (.bool (boolOf (rgP (chrR 1 C i E j))))∧Below w.heap.size w w':=by
 rw [show boolOf (rgP (chrR 1 C i E j))=boolOf (VS [zA7 C i] []) from boolOf_cong (rg_n (c:=chrR 1 C i E j) (.inl rfl))]
 have HX:Hid (Blk (w.alloc (Obj.cells (chA 1 C i E j) 34)) w.heap.size 34 (chA 1 C i E j)):=Blk.new _ _ _
 have HAL:Hid (Below w.heap.size w (w.alloc (Obj.cells (chA 1 C i E j) 34))):=(bR _ w).alloc (nl _) _
 have HT:=LH (And.intro hTx hTl)
 have SV:Hid (∀g w',NdIn w' (some ⟨g,0,none⟩) 1 (nd1K C i)→Calls Tryz.prog 68 #[.agg #[.slice (some ⟨g,0,none⟩) 1 1,.slice none 0 0]] w' fun e w''=>e= .returned (.bool (boolOf (VS [zA7 C i] [])))∧Below w'.heap.size w' w''):=fun g w' hn=>by
  have h:=zF4 (some ⟨g,0,none⟩) none 1 1 0 0 (nd1K C i) (lk1K E j) (ZZ.sz (D:=nd1K C i) (K:=lk1K E j) (n:=1) (m:=0) (zz_one hx)) w' hn (zU3 _ _)
  rw [vs_node] at h
  exact h
 obtain ⟨V,hV⟩:∃V,boolOf (VS [zA7 C i] [])=V:=⟨_,rfl⟩
 rw [hV]
 rw [hV] at SV
 clear hV hx hl hTx hTl
 go_enter Tryz.func51,Tryz.ntmps51
 go_upto_region 1 with fail
 generalize w.alloc (Obj.cells (chA 1 C i E j) 34)=W at HX HAL⊢
 have e0:=HX.out.cell 0
 simp only [chA,List.getElem?_toArray,List.getElem?_cons_zero,List.getElem?_cons_succ] at e0
 obtain ⟨x1,x2,x3,x4,x5,x6,x7,x8,x9⟩:=chgN HX.out
 go_wp2_with (first
  |(go_at_call 96
    with_reducible refine (sc_alone C i _).mono ?_
    rintro e w4 ⟨g,rfl,hb4,hw4⟩
    have HB4:=LH (zA1 HAL.out hw4)
    have HN4:=LH (nd1K_in hb4 (HT.out.1.below (nl _) HB4.out))
    clear hw4 hb4 e0 x1 x2 x3 x4 x5 x6 x7 x8 x9)
  |(go_at_call 68
    with_reducible refine (SV.out _ _ HN4.out).mono ?_
    rintro e w5 ⟨rfl,hb5⟩
    have HB5:=LH (zA1 HB4.out hb5)
    clear hb5))
 go_ret
 exact ⟨rfl,HB5.out⟩
set_option maxRecDepth 100000 in
set_option maxHeartbeats 8000000 in
theorem sc_right2 (i j:Nat) (C:Nds) (E:Lks) (w:World) (hx:ZN (zA7 C i)) (hl:ZL (zA5 E j)) (hTx:TabIn w (C.SA i) (C.SN i) (C.SX i) (C.SY i)) (hTl:TabIn w (E.CA j) (E.CN j) (E.CX j) (E.CY j)):
 Calls Tryz.prog 51 #[.agg (chA 2 C i E j)] w fun e w'=>e= .returned (.bool (boolOf (rgP (chrR 2 C i E j))))∧Below w.heap.size w w':=by
 rw [show boolOf (rgP (chrR 2 C i E j))=boolOf (VS [zA7 C i] []) from boolOf_cong (rg_n (c:=chrR 2 C i E j) (.inr rfl))]
 have HX:Hid (Blk (w.alloc (Obj.cells (chA 2 C i E j) 34)) w.heap.size 34 (chA 2 C i E j)):=Blk.new _ _ _
 have HAL:Hid (Below w.heap.size w (w.alloc (Obj.cells (chA 2 C i E j) 34))):=(bR _ w).alloc (nl _) _
 have HT:=LH (And.intro hTx hTl)
 have SV:Hid (∀g w',NdIn w' (some ⟨g,0,none⟩) 1 (nd1K C i)→Calls Tryz.prog 68 #[.agg #[.slice (some ⟨g,0,none⟩) 1 1,.slice none 0 0]] w' fun e w''=>e= .returned (.bool (boolOf (VS [zA7 C i] [])))∧Below w'.heap.size w' w''):=fun g w' hn=>by
  have h:=zF4 (some ⟨g,0,none⟩) none 1 1 0 0 (nd1K C i) (lk1K E j) (ZZ.sz (D:=nd1K C i) (K:=lk1K E j) (n:=1) (m:=0) (zz_one hx)) w' hn (zU3 _ _)
  rw [vs_node] at h
  exact h
 obtain ⟨V,hV⟩:∃V,boolOf (VS [zA7 C i] [])=V:=⟨_,rfl⟩
 rw [hV]
 rw [hV] at SV
 clear hV hx hl hTx hTl
 go_enter Tryz.func51,Tryz.ntmps51
 go_upto_region 1 with fail
 generalize w.alloc (Obj.cells (chA 2 C i E j) 34)=W at HX HAL⊢
 have e0:=HX.out.cell 0
 simp only [chA,List.getElem?_toArray,List.getElem?_cons_zero,List.getElem?_cons_succ] at e0
 obtain ⟨x1,x2,x3,x4,x5,x6,x7,x8,x9⟩:=chgN HX.out
 go_wp2_with (first
  |(go_at_call 96
    with_reducible refine (sc_alone C i _).mono ?_
    rintro e w4 ⟨g,rfl,hb4,hw4⟩
    have HB4:=LH (zA1 HAL.out hw4)
    have HN4:=LH (nd1K_in hb4 (HT.out.1.below (nl _) HB4.out))
    clear hw4 hb4 e0 x1 x2 x3 x4 x5 x6 x7 x8 x9)
  |(go_at_call 68
    with_reducible refine (SV.out _ _ HN4.out).mono ?_
    rintro e w5 ⟨rfl,hb5⟩
    have HB5:=LH (zA1 HB4.out hb5)
    clear hb5))
 go_ret
 exact ⟨rfl,HB5.out⟩
set_option maxRecDepth 100000 in
set_option maxHeartbeats 8000000 in
theorem sc_right4 (i j:Nat) (C:Nds) (E:Lks) (w:World) (hx:ZN (zA7 C i)) (hl:ZL (zA5 E j)) (hTx:TabIn w (C.SA i) (C.SN i) (C.SX i) (C.SY i)) (hTl:TabIn w (E.CA j) (E.CN j) (E.CX j) (E.CY j)):
 Calls Tryz.prog 51 #[.agg (chA 4 C i E j)] w fun e w'=>e= .returned (.bool (boolOf (rgP (chrR 4 C i E j))))∧Below w.heap.size w w':=by
 rw [show boolOf (rgP (chrR 4 C i E j))=boolOf (VS [endR (E.Fr j),endR (E.To j)] [zA5 E j]) from boolOf_cong (rg_l (c:=chrR 4 C i E j) (.inl rfl))]
 have HX:Hid (Blk (w.alloc (Obj.cells (chA 4 C i E j) 34)) w.heap.size 34 (chA 4 C i E j)):=Blk.new _ _ _
 have HAL:Hid (Below w.heap.size w (w.alloc (Obj.cells (chA 4 C i E j) 34))):=(bR _ w).alloc (nl _) _
 have HT:=LH (And.intro hTx hTl)
 have SV:Hid (∀gN gL g h w',NdIn w' (some ⟨gN,0,none⟩) 2 (enK (E.Fr j) (E.To j) g h)→LkIn w' (some ⟨gL,0,none⟩) 1 (lk1K E j)→Calls Tryz.prog 68 #[.agg #[.slice (some ⟨gN,0,none⟩) 2 2,.slice (some ⟨gL,0,none⟩) 1 1]] w' fun e w''=>e= .returned (.bool (boolOf (VS [endR (E.Fr j),endR (E.To j)] [zA5 E j])))∧Below w'.heap.size w' w''):=fun gN gL g h w' hn hk=>by
  have h:=zF4 (some ⟨gN,0,none⟩) (some ⟨gL,0,none⟩) 2 2 1 1 (enK (E.Fr j) (E.To j) g h) (lk1K E j) (ZZ.sz (D:=enK (E.Fr j) (E.To j) g h) (K:=lk1K E j) (n:=2) (m:=1) (zz_link hl)) w' hn hk
  rw [vs_link] at h
  exact h
 obtain ⟨V,hV⟩:∃V,boolOf (VS [endR (E.Fr j),endR (E.To j)] [zA5 E j])=V:=⟨_,rfl⟩
 rw [hV]
 rw [hV] at SV
 clear hV hx hl hTx hTl
 go_enter Tryz.func51,Tryz.ntmps51
 go_upto_region 1 with fail
 generalize w.alloc (Obj.cells (chA 4 C i E j) 34)=W at HX HAL⊢
 have e0:=HX.out.cell 0
 simp only [chA,List.getElem?_toArray,List.getElem?_cons_zero,List.getElem?_cons_succ] at e0
 obtain ⟨x0,x1,x2,x3,x4,x5,x6,x7,x8,x9,x10⟩:=chgL HX.out
 go_wp2_with (first
  |(go_at_call 97
    with_reducible refine (sc_between E j _ (HT.out.2.below (nl _) HAL.out)).mono ?_
    rintro e w4 ⟨gN,gL,g,h,rfl,hn4,hk4,hw4⟩
    have HB4:=LH (zA1 HAL.out hw4)
    have HN4:=LH (And.intro hn4 hk4)
    clear hw4 hn4 hk4 e0 x0 x1 x2 x3 x4 x5 x6 x7 x8 x9 x10)
  |(go_at_call 68
    with_reducible refine (SV.out _ _ _ _ _ HN4.out.1 HN4.out.2).mono ?_
    rintro e w5 ⟨rfl,hb5⟩
    have HB5:=LH (zA1 HB4.out hb5)
    clear hb5))
 go_ret
 exact ⟨rfl,HB5.out⟩
set_option maxRecDepth 100000 in
set_option maxHeartbeats 8000000 in
theorem sc_right5 (i j:Nat) (C:Nds) (E:Lks) (w:World) (hx:ZN (zA7 C i)) (hl:ZL (zA5 E j)) (hTx:TabIn w (C.SA i) (C.SN i) (C.SX i) (C.SY i)) (hTl:TabIn w (E.CA j) (E.CN j) (E.CX j) (E.CY j)):
 Calls Tryz.prog 51 #[.agg (chA 5 C i E j)] w fun e w'=>e= .returned (.bool (boolOf (rgP (chrR 5 C i E j))))∧Below w.heap.size w w':=by
 rw [show boolOf (rgP (chrR 5 C i E j))=boolOf (VS [endR (E.Fr j),endR (E.To j)] [zA5 E j]) from boolOf_cong (rg_l (c:=chrR 5 C i E j) (.inr rfl))]
 have HX:Hid (Blk (w.alloc (Obj.cells (chA 5 C i E j) 34)) w.heap.size 34 (chA 5 C i E j)):=Blk.new _ _ _
 have HAL:Hid (Below w.heap.size w (w.alloc (Obj.cells (chA 5 C i E j) 34))):=(bR _ w).alloc (nl _) _
 have HT:=LH (And.intro hTx hTl)
 have SV:Hid (∀gN gL g h w',NdIn w' (some ⟨gN,0,none⟩) 2 (enK (E.Fr j) (E.To j) g h)→LkIn w' (some ⟨gL,0,none⟩) 1 (lk1K E j)→Calls Tryz.prog 68 #[.agg #[.slice (some ⟨gN,0,none⟩) 2 2,.slice (some ⟨gL,0,none⟩) 1 1]] w' fun e w''=>e= .returned (.bool (boolOf (VS [endR (E.Fr j),endR (E.To j)] [zA5 E j])))∧Below w'.heap.size w' w''):=fun gN gL g h w' hn hk=>by
  have h:=zF4 (some ⟨gN,0,none⟩) (some ⟨gL,0,none⟩) 2 2 1 1 (enK (E.Fr j) (E.To j) g h) (lk1K E j) (ZZ.sz (D:=enK (E.Fr j) (E.To j) g h) (K:=lk1K E j) (n:=2) (m:=1) (zz_link hl)) w' hn hk
  rw [vs_link] at h
  exact h
 obtain ⟨V,hV⟩:∃V,boolOf (VS [endR (E.Fr j),endR (E.To j)] [zA5 E j])=V:=⟨_,rfl⟩
 rw [hV]
 rw [hV] at SV
 clear hV hx hl hTx hTl
 go_enter Tryz.func51,Tryz.ntmps51
 go_upto_region 1 with fail
 generalize w.alloc (Obj.cells (chA 5 C i E j) 34)=W at HX HAL⊢
 have e0:=HX.out.cell 0
 simp only [chA,List.getElem?_toArray,List.getElem?_cons_zero,List.getElem?_cons_succ] at e0
 obtain ⟨x0,x1,x2,x3,x4,x5,x6,x7,x8,x9,x10⟩:=chgL HX.out
 go_wp2_with (first
  |(go_at_call 97
    with_reducible refine (sc_between E j _ (HT.out.2.below (nl _) HAL.out)).mono ?_
    rintro e w4 ⟨gN,gL,g,h,rfl,hn4,hk4,hw4⟩
    have HB4:=LH (zA1 HAL.out hw4)
    have HN4:=LH (And.intro hn4 hk4)
    clear hw4 hn4 hk4 e0 x0 x1 x2 x3 x4 x5 x6 x7 x8 x9 x10)
  |(go_at_call 68
    with_reducible refine (SV.out _ _ _ _ _ HN4.out.1 HN4.out.2).mono ?_
    rintro e w5 ⟨rfl,hb5⟩
    have HB5:=LH (zA1 HB4.out hb5)
    clear hb5))
 go_ret
 exact ⟨rfl,HB5.out⟩
set_option maxRecDepth 100000 in
set_option maxHeartbeats 8000000 in
theorem sc_right0 (kd:Int) (i j:Nat) (C:Nds) (E:Lks) (w:World) (hk:¬(1≤kd∧kd≤6)):
 Calls Tryz.prog 51 #[.agg (chA kd C i E j)] w fun e w'=>e= .returned (.bool false)∧Below w.heap.size w w':=by
 have HX:Hid (Blk (w.alloc (Obj.cells (chA kd C i E j) 34)) w.heap.size 34 (chA kd C i E j)):=Blk.new _ _ _
 have HAL:Hid (Below w.heap.size w (w.alloc (Obj.cells (chA kd C i E j) 34))):=(bR _ w).alloc (nl _) _
 have t1:(kd==1)=false:=by simp;omega
 have t2:(kd==2)=false:=by simp;omega
 have t3:(kd==3)=false:=by simp;omega
 have t4:(kd==4)=false:=by simp;omega
 have t5:(kd==5)=false:=by simp;omega
 have t6:(kd==6)=false:=by simp;omega
 clear hk
 go_enter Tryz.func51,Tryz.ntmps51
 go_upto_region 1 with fail
 generalize w.alloc (Obj.cells (chA kd C i E j) 34)=W at HX HAL⊢
 have e0:=HX.out.cell 0
 simp only [chA,List.getElem?_toArray,List.getElem?_cons_zero,List.getElem?_cons_succ] at e0
 go_wp2_with fail
 go_ret
 exact ⟨rfl,HAL.out⟩
theorem sc_right (kd:Int) (i j:Nat) (C:Nds) (E:Lks) (w:World) (hx:ZN (zA7 C i)) (hl:ZL (zA5 E j)) (hTx:TabIn w (C.SA i) (C.SN i) (C.SX i) (C.SY i)) (hTl:TabIn w (E.CA j) (E.CN j) (E.CX j) (E.CY j)):
 Calls Tryz.prog 51 #[.agg (chA kd C i E j)] w fun e w'=>e= .returned (.bool (boolOf (rgP (chrR kd C i E j))))∧Below w.heap.size w w':=by
 by_cases h0:1≤kd∧kd≤6
 ·have hk:kd=1∨kd=2∨kd=3∨kd=4∨kd=5∨kd=6:=by omega
  rcases hk with rfl |rfl |rfl |rfl |rfl |rfl
  ·exact sc_right1 i j C E w hx hl hTx hTl
  ·exact sc_right2 i j C E w hx hl hTx hTl
  ·have h:=sc_right3 i j C E w (zD1 ((C.Nm i)).data.toList) hx.1 rfl
   rw [show zD1 ((C.Nm i)).data.toList=boolOf (rgP (chrR 3 C i E j)) from zI3 (rg_3 (c:=chrR 3 C i E j) rfl).symm] at h
   exact h
  ·exact sc_right4 i j C E w hx hl hTx hTl
  ·exact sc_right5 i j C E w hx hl hTx hTl
  ·have h:=sc_right6 i j C E w (zD1 ((E.Nm j)).data.toList) hl.1 rfl
   rw [show zD1 ((E.Nm j)).data.toList=boolOf (rgP (chrR 6 C i E j)) from zI3 (rg_6 (c:=chrR 6 C i E j) rfl).symm] at h
   exact h
 ·have h:=sc_right0 kd i j C E w h0
  rw [zA0 fun q=>h0 q.known]
  exact h
theorem ss_ne {a b:ByteArray} (h:a≠b):(a.toList==b.toList)=false:=by
 have t:¬a.toList=b.toList:=fun e=>h (zC1 e)
 simp [t]
theorem ss_eq {a b:ByteArray} (h:a=b):(a.toList==b.toList)=true:=by subst h;simp
theorem ss_dec (a b:ByteArray):∃v:Bool,(a.toList==b.toList)=v∧(v=true↔a=b):=by
 by_cases h:a=b
 ·exact ⟨true,ss_eq h,by simp [h]⟩
 ·exact ⟨false,ss_ne h,by simp [h]⟩
theorem kd3 {k:Int} (h:1≤k∧k≤6):(k=1∨k=2∨k=3)↔k≤3:=by omega
set_option maxRecDepth 100000 in
set_option maxHeartbeats 32000000 in
theorem sc_Independent (ka kb:Int) (i j i' j':Nat) (C D:Nds) (E K:Lks) (w:World) (hx:ZN (zA7 C i)) (hl:ZL (zA5 E j)) (hx':ZN (zA7 D i')) (hl':ZL (zA5 K j')) (hTx:TabIn w (C.SA i) (C.SN i) (C.SX i) (C.SY i)) (hTl:TabIn w (E.CA j) (E.CN j) (E.CX j) (E.CY j)) (hTx':TabIn w (D.SA i') (D.SN i') (D.SX i') (D.SY i')) (hTl':TabIn w (K.CA j') (K.CN j') (K.CX j') (K.CY j')):
 Calls Tryz.prog 17 #[.agg (chA ka C i E j),.agg (chA kb D i' K j')] w fun e w'=>e= .returned (.bool (boolOf (indP (chrR ka C i E j) (chrR kb D i' K j'))))∧Below w.heap.size w w':=by
 have HB:Hid (Below w.heap.size w ((w.alloc (Obj.cells (chA ka C i E j) 34)).alloc (Obj.cells (chA kb D i' K j') 34))):=((bR _ w).alloc (nl _) _).alloc (by simp) _
 have HAX:Hid (Blk ((w.alloc (Obj.cells (chA ka C i E j) 34)).alloc (Obj.cells (chA kb D i' K j') 34)) w.heap.size 34 (chA ka C i E j)):=(Blk.new _ _ _).alloc _
 have HBX:Hid (Blk ((w.alloc (Obj.cells (chA ka C i E j) 34)).alloc (Obj.cells (chA kb D i' K j') 34)) (w.heap.size+1) 34 (chA kb D i' K j')):=by have h:=Blk.new (w.alloc (Obj.cells (chA ka C i E j) 34)) 34 (chA kb D i' K j');rw [zB0] at h;exact h
 obtain ⟨VA,hVA⟩:∃V,boolOf (rgP (chrR ka C i E j))=V:=⟨_,rfl⟩
 obtain ⟨VB,hVB⟩:∃V,boolOf (rgP (chrR kb D i' K j'))=V:=⟨_,rfl⟩
 have SRA:Hid (∀w',Below w.heap.size w w'→Calls Tryz.prog 51 #[.agg (chA ka C i E j)] w' fun e w''=>e= .returned (.bool VA)∧Below w'.heap.size w' w''):=fun w' hb=>by
  have h:=sc_right ka i j C E w' hx hl (hTx.below (nl _) hb) (hTl.below (nl _) hb)
  rw [hVA] at h
  exact h
 have SRB:Hid (∀w',Below w.heap.size w w'→Calls Tryz.prog 51 #[.agg (chA kb D i' K j')] w' fun e w''=>e= .returned (.bool VB)∧Below w'.heap.size w' w''):=fun w' hb=>by
  have h:=sc_right kb i' j' D K w' hx' hl' (hTx'.below (nl _) hb) (hTl'.below (nl _) hb)
  rw [hVB] at h
  exact h
 obtain ⟨V,hV0⟩:∃V,boolOf (indP (chrR ka C i E j) (chrR kb D i' K j'))=V:=⟨_,rfl⟩
 rw [hV0]
 have HV:=LH hV0
 clear hx hl hx' hl' hTx hTl hTx' hTl' hV0
 go_enter Tryz.func17,Tryz.ntmps17
 go_upto_region 1 with fail
 generalize (w.alloc (Obj.cells (chA ka C i E j) 34)).alloc (Obj.cells (chA kb D i' K j') 34)=w2 at HB HAX HBX⊢
 by_cases ra:rgP (chrR ka C i E j)
 case neg=>
  obtain rfl:VA=false:=by rw [←hVA];exact zA0 ra
  obtain rfl:V=false:=by rw [←HV.out];exact zA0 fun h=>ra h.1
  clear ra hVA hVB
  go_wp2_with (first
   |(refine wpList_load_row rfl 34 (.tmp 2) rfl _ rfl _ _ (0,0) _ HAX.out Tryz.underlying34 rfl (by kernel_rfl) ?_)
   |(refine zY0 rfl 34 (.tmp 3) rfl (w.heap.size+1) rfl _ _ HBX.out _ Tryz.underlying34 rfl (by kernel_rfl) ?_)
   |(go_at_call 51
     with_reducible refine (SRA.out _ HB.out).mono ?_
     rintro e w4 ⟨rfl,hb4⟩
     have HAX:=LH (HAX.out.call hb4)
     have HBX:=LH (HBX.out.call hb4)
     have HB:=LH (zA1 HB.out hb4)
     clear hb4)
   |(go_at_call 51
     with_reducible refine (SRB.out _ HB.out).mono ?_
     rintro e w4 ⟨rfl,hb4⟩
     have HAX:=LH (HAX.out.call hb4)
     have HBX:=LH (HBX.out.call hb4)
     have HB:=LH (zA1 HB.out hb4)
     clear hb4))
  go_ret
  exact ⟨rfl,HB.out⟩
 obtain rfl:VA=true:=by rw [←hVA];exact zA2 ra
 by_cases rb:rgP (chrR kb D i' K j')
 case neg=>
  obtain rfl:VB=false:=by rw [←hVB];exact zA0 rb
  obtain rfl:V=false:=by rw [←HV.out];exact zA0 fun h=>rb h.2.1
  clear ra rb hVA hVB
  go_wp2_with (first
   |(refine wpList_load_row rfl 34 (.tmp 2) rfl _ rfl _ _ (0,0) _ HAX.out Tryz.underlying34 rfl (by kernel_rfl) ?_)
   |(refine zY0 rfl 34 (.tmp 3) rfl (w.heap.size+1) rfl _ _ HBX.out _ Tryz.underlying34 rfl (by kernel_rfl) ?_)
   |(go_at_call 51
     with_reducible refine (SRA.out _ HB.out).mono ?_
     rintro e w4 ⟨rfl,hb4⟩
     have HAX:=LH (HAX.out.call hb4)
     have HBX:=LH (HBX.out.call hb4)
     have HB:=LH (zA1 HB.out hb4)
     clear hb4)
   |(go_at_call 51
     with_reducible refine (SRB.out _ HB.out).mono ?_
     rintro e w4 ⟨rfl,hb4⟩
     have HAX:=LH (HAX.out.call hb4)
     have HBX:=LH (HBX.out.call hb4)
     have HB:=LH (zA1 HB.out hb4)
     clear hb4))
  go_ret
  exact ⟨rfl,HB.out⟩
 obtain rfl:VB=true:=by rw [←hVB];exact zA2 rb
 have k1:1≤ka∧ka≤6:=ra.known
 have k2:1≤kb∧kb≤6:=rb.known
 have HK:=LH (And.intro k1 k2)
 have HI:Hid (indP (chrR ka C i E j) (chrR kb D i' K j')↔((ka≤3∧kb≤3∧C.Nm i≠D.Nm i')∨(3<ka∧3<kb∧E.Nm j≠K.Nm j')∨(ka≤3∧3<kb∧(kb=6∨(K.Fr j'≠C.Nm i∧K.To j'≠C.Nm i)))∨(3<ka∧kb≤3∧(ka=6∨(E.Fr j≠D.Nm i'∧E.To j≠D.Nm i'))))):=⟨fun h=>h.2.2,fun h=>⟨ra,rb,h⟩⟩
 clear ra rb hVA hVB k1 k2
 go_upto_region 3 with (first
  |(refine wpList_load_row rfl 34 (.tmp 2) rfl _ rfl _ _ (0,0) _ HAX.out Tryz.underlying34 rfl (by kernel_rfl) ?_)
  |(refine zY0 rfl 34 (.tmp 3) rfl (w.heap.size+1) rfl _ _ HBX.out _ Tryz.underlying34 rfl (by kernel_rfl) ?_)
  |(go_at_call 51
    with_reducible refine (SRA.out _ HB.out).mono ?_
    rintro e w4 ⟨rfl,hb4⟩
    have HAX:=LH (HAX.out.call hb4)
    have HBX:=LH (HBX.out.call hb4)
    have HB:=LH (zA1 HB.out hb4)
    clear hb4)
  |(go_at_call 51
    with_reducible refine (SRB.out _ HB.out).mono ?_
    rintro e w4 ⟨rfl,hb4⟩
    have HAX:=LH (HAX.out.call hb4)
    have HBX:=LH (HBX.out.call hb4)
    have HB:=LH (zA1 HB.out hb4)
    clear hb4))
 clear SRA SRB
 have HS:Hid (∀w',Blk w' w.heap.size 34 (chA ka C i E j)→Blk w' (w.heap.size+1) 34 (chA kb D i' K j')→(fun w'=>w'.cell? ⟨w.heap.size,0,none⟩=some (.int .i64 ka)∧w'.cell? ⟨w.heap.size+1,0,none⟩=some (.int .i64 kb)∧w'.rangeAt w.heap.size 0 [.int .i64 ka,.string (C.Nm i),.int .i64 (C.Kd i),.int .i64 (C.Ax i),.int .i64 (C.Ay i),.int .i64 (C.Iv i),.int .i64 (C.Gd i),.slice (C.SA i) (C.SN i) (C.SC i),.bool (C.Pt i),.int .i64 (C.Rs i),.string (E.Nm j),.string (E.Fr j),.string (E.To j),.int .i64 (E.Kd j),.int .i64 (E.Ln j),.int .i64 (E.Up j),.int .i64 (E.Dn j),.string (E.Sc j),.int .i64 (E.Wd j),.int .i64 (E.Ht j),.slice (E.CA j) (E.CN j) (E.CC j)]∧w'.rangeAt (w.heap.size+1) 0 [.int .i64 kb,.string (D.Nm i'),.int .i64 (D.Kd i'),.int .i64 (D.Ax i'),.int .i64 (D.Ay i'),.int .i64 (D.Iv i'),.int .i64 (D.Gd i'),.slice (D.SA i') (D.SN i') (D.SC i'),.bool (D.Pt i'),.int .i64 (D.Rs i'),.string (K.Nm j'),.string (K.Fr j'),.string (K.To j'),.int .i64 (K.Kd j'),.int .i64 (K.Ln j'),.int .i64 (K.Up j'),.int .i64 (K.Dn j'),.string (K.Sc j'),.int .i64 (K.Wd j'),.int .i64 (K.Ht j'),.slice (K.CA j') (K.CN j') (K.CC j')]) w'):=fun w' ha hb=>⟨ha.cell 0,hb.cell 0,ha.cells,hb.cells⟩
 by_cases fa:ka≤3
 ·have da:decide (ka=1∨ka=2∨ka=3)=true:=dU ((kd3 HK.out.1).2 fa)
  have SOA:Hid (∀w',Calls Tryz.prog 52 #[.int .i64 ka] w' fun e w''=>e= .returned (.bool true)∧Below w'.heap.size w' w''):=fun w'=>by
   have h:=zL1 ka w'
   rw [da] at h
   exact h.mono fun e w'' q=>⟨q.1,by rw [q.2];exact bR _ _⟩
  have SNA:Hid (∀w',Calls Tryz.prog 53 #[.agg #[.int .i64 ka,.string (C.Nm i),.int .i64 (C.Kd i),.int .i64 (C.Ax i),.int .i64 (C.Ay i),.int .i64 (C.Iv i),.int .i64 (C.Gd i),.slice (C.SA i) (C.SN i) (C.SC i),.bool (C.Pt i),.int .i64 (C.Rs i),.string (E.Nm j),.string (E.Fr j),.string (E.To j),.int .i64 (E.Kd j),.int .i64 (E.Ln j),.int .i64 (E.Up j),.int .i64 (E.Dn j),.string (E.Sc j),.int .i64 (E.Wd j),.int .i64 (E.Ht j),.slice (E.CA j) (E.CN j) (E.CC j)]] w' fun e w''=>e= .returned (.string (C.Nm i))∧Below w'.heap.size w' w''):=fun w'=>by
   have h:=sc_name ka i j C E w'
   rw [if_pos ((kd3 HK.out.1).2 fa)] at h
   exact h
  clear da
  by_cases fb:kb≤3
  ·have db:decide (kb=1∨kb=2∨kb=3)=true:=dU ((kd3 HK.out.2).2 fb)
   have SOB:Hid (∀w',Calls Tryz.prog 52 #[.int .i64 kb] w' fun e w''=>e= .returned (.bool true)∧Below w'.heap.size w' w''):=fun w'=>by
        have h:=zL1 kb w'
        rw [db] at h
        exact h.mono fun e w'' q=>⟨q.1,by rw [q.2];exact bR _ _⟩
   have SNB:Hid (∀w',Calls Tryz.prog 53 #[.agg #[.int .i64 kb,.string (D.Nm i'),.int .i64 (D.Kd i'),.int .i64 (D.Ax i'),.int .i64 (D.Ay i'),.int .i64 (D.Iv i'),.int .i64 (D.Gd i'),.slice (D.SA i') (D.SN i') (D.SC i'),.bool (D.Pt i'),.int .i64 (D.Rs i'),.string (K.Nm j'),.string (K.Fr j'),.string (K.To j'),.int .i64 (K.Kd j'),.int .i64 (K.Ln j'),.int .i64 (K.Up j'),.int .i64 (K.Dn j'),.string (K.Sc j'),.int .i64 (K.Wd j'),.int .i64 (K.Ht j'),.slice (K.CA j') (K.CN j') (K.CC j')]] w' fun e w''=>e= .returned (.string (D.Nm i'))∧Below w'.heap.size w' w''):=fun w'=>by
        have h:=sc_name kb i' j' D K w'
        rw [if_pos ((kd3 HK.out.2).2 fb)] at h
        exact h
   obtain ⟨v1,s1,hv1⟩:=ss_dec (C.Nm i) (D.Nm i')
   have hV:V= !v1:=by
        rw [←HV.out,boolOf_cong (HI.out.trans (show _↔C.Nm i≠D.Nm i' from ⟨fun h=>by rcases h with ⟨_,_,r⟩|⟨p,_,_⟩|⟨_,p,_⟩|⟨p,_,_⟩<;> first |exact r |omega,fun h=>.inl ⟨fa,fb,h⟩⟩))]
        cases v1
        ·exact zA2 fun g=>absurd (hv1.2 g) (by simp)
        ·exact zA0 fun g=>g (hv1.1 rfl)
   subst hV
   clear fa fb db hv1
   refine wp_region_held_drew (S:=(fun w'=>w'.cell? ⟨w.heap.size,0,none⟩=some (.int .i64 ka)∧w'.cell? ⟨w.heap.size+1,0,none⟩=some (.int .i64 kb)∧w'.rangeAt w.heap.size 0 [.int .i64 ka,.string (C.Nm i),.int .i64 (C.Kd i),.int .i64 (C.Ax i),.int .i64 (C.Ay i),.int .i64 (C.Iv i),.int .i64 (C.Gd i),.slice (C.SA i) (C.SN i) (C.SC i),.bool (C.Pt i),.int .i64 (C.Rs i),.string (E.Nm j),.string (E.Fr j),.string (E.To j),.int .i64 (E.Kd j),.int .i64 (E.Ln j),.int .i64 (E.Up j),.int .i64 (E.Dn j),.string (E.Sc j),.int .i64 (E.Wd j),.int .i64 (E.Ht j),.slice (E.CA j) (E.CN j) (E.CC j)]∧w'.rangeAt (w.heap.size+1) 0 [.int .i64 kb,.string (D.Nm i'),.int .i64 (D.Kd i'),.int .i64 (D.Ax i'),.int .i64 (D.Ay i'),.int .i64 (D.Iv i'),.int .i64 (D.Gd i'),.slice (D.SA i') (D.SN i') (D.SC i'),.bool (D.Pt i'),.int .i64 (D.Rs i'),.string (K.Nm j'),.string (K.Fr j'),.string (K.To j'),.int .i64 (K.Kd j'),.int .i64 (K.Ln j'),.int .i64 (K.Up j'),.int .i64 (K.Dn j'),.string (K.Sc j'),.int .i64 (K.Wd j'),.int .i64 (K.Ht j'),.slice (K.CA j') (K.CN j') (K.CC j')])) (by kernel_rfl) ?_ (fun hHeld=>?_)
   ·exact HS.out _ (HAX.out.call (bR w4.heap.size w4).drew) (HBX.out.call (bR w4.heap.size w4).drew)
   refine tkD 0 (some 15) ?_
   refine tkD 1 (some 16) ?_
   refine tkD 3 (some 18) ?_
   refine tkD 4 (some 19) ?_
   have hd:Below w4.heap.size w4 w4.drew:=(bR w4.heap.size w4).drew
   refine wpAnyH_ready (rs:=[2]) (by kernel_rfl) (by simp) ?_
   refine AllReadyH.cons rfl (fun Kq hKq=>?_) AllReadyH.nil
   go_simp
   go_at_call 52
   with_reducible refine (SOA.out _).mono ?_
   rintro e w6 ⟨rfl,hb⟩
   have hd:=zA1 hd hb
   clear hb
   go_wp2_with fail
   refine hKq.out _ _ (HS.out _ (HAX.out.call hd) (HBX.out.call hd)) (fun hHeld1=>?_)
   clear hKq Kq hHeld
   (try simp only [Act.put,sA,sB,sC])
   refine wpAnyH_ready (rs:=[5]) (by kernel_rfl) (by simp) ?_
   refine AllReadyH.cons rfl (fun Kq hKq=>?_) AllReadyH.nil
   go_simp
   go_at_call 52
   with_reducible refine (SOB.out _).mono ?_
   rintro e w7 ⟨rfl,hb⟩
   have hd:=zA1 hd hb
   clear hb
   go_wp2_with fail
   refine hKq.out _ _ (HS.out _ (HAX.out.call hd) (HBX.out.call hd)) (fun hHeld2=>?_)
   clear hKq Kq hHeld1
   (try simp only [Act.put,sA,sB,sC])
   refine tkD 6 (some 21) ?_
   refine tkD 7 (some 14) ?_
   refine wpAnyH_done (by kernel_rfl) ?_ _
   have HAX:=LH (HAX.out.call hd)
   have HBX:=LH (HBX.out.call hd)
   have HB:=LH (zA1 HB.out hd)
   clear hHeld2 hd
   go_upto_region 4 with fail
   refine wp_region_held_drew (S:=(fun w'=>w'.cell? ⟨w.heap.size,0,none⟩=some (.int .i64 ka)∧w'.cell? ⟨w.heap.size+1,0,none⟩=some (.int .i64 kb)∧w'.rangeAt w.heap.size 0 [.int .i64 ka,.string (C.Nm i),.int .i64 (C.Kd i),.int .i64 (C.Ax i),.int .i64 (C.Ay i),.int .i64 (C.Iv i),.int .i64 (C.Gd i),.slice (C.SA i) (C.SN i) (C.SC i),.bool (C.Pt i),.int .i64 (C.Rs i),.string (E.Nm j),.string (E.Fr j),.string (E.To j),.int .i64 (E.Kd j),.int .i64 (E.Ln j),.int .i64 (E.Up j),.int .i64 (E.Dn j),.string (E.Sc j),.int .i64 (E.Wd j),.int .i64 (E.Ht j),.slice (E.CA j) (E.CN j) (E.CC j)]∧w'.rangeAt (w.heap.size+1) 0 [.int .i64 kb,.string (D.Nm i'),.int .i64 (D.Kd i'),.int .i64 (D.Ax i'),.int .i64 (D.Ay i'),.int .i64 (D.Iv i'),.int .i64 (D.Gd i'),.slice (D.SA i') (D.SN i') (D.SC i'),.bool (D.Pt i'),.int .i64 (D.Rs i'),.string (K.Nm j'),.string (K.Fr j'),.string (K.To j'),.int .i64 (K.Kd j'),.int .i64 (K.Ln j'),.int .i64 (K.Up j'),.int .i64 (K.Dn j'),.string (K.Sc j'),.int .i64 (K.Wd j'),.int .i64 (K.Ht j'),.slice (K.CA j') (K.CN j') (K.CC j')])) (by kernel_rfl) ?_ (fun hHeld=>?_)
   ·exact HS.out _ (HAX.out.call (bR w7.heap.size w7).drew) (HBX.out.call (bR w7.heap.size w7).drew)
   refine tkD 0 (some 22) ?_ (hy:=yieldsIf_load_mid (by rfl) 34 (.tmp 2) rfl w.heap.size 0 rfl _ _ (fun w h=>h.2.2.1) Tryz.underlying34 rfl (by kernel_rfl))
   refine tkD 2 (some 24) ?_ (hy:=yieldsIf_load_mid (by rfl) 34 (.tmp 3) rfl (w.heap.size+1) 0 rfl _ _ (fun w h=>h.2.2.2) Tryz.underlying34 rfl (by kernel_rfl))
   have hd:Below w7.heap.size w7 w7.drew:=(bR w7.heap.size w7).drew
   refine wpAnyH_ready (rs:=[1]) (by kernel_rfl) (by simp) ?_
   refine AllReadyH.cons rfl (fun Kq hKq=>?_) AllReadyH.nil
   go_simp
   go_at_call 53
   with_reducible refine (SNA.out _).mono ?_
   rintro e w6 ⟨rfl,hb⟩
   have hd:=zA1 hd hb
   clear hb
   go_wp2_with fail
   refine hKq.out _ _ (HS.out _ (HAX.out.call hd) (HBX.out.call hd)) (fun hHeld1=>?_)
   clear hKq Kq hHeld
   (try simp only [Act.put,sA,sB,sC])
   refine wpAnyH_ready (rs:=[3]) (by kernel_rfl) (by simp) ?_
   refine AllReadyH.cons rfl (fun Kq hKq=>?_) AllReadyH.nil
   go_simp
   go_at_call 53
   with_reducible refine (SNB.out _).mono ?_
   rintro e w7 ⟨rfl,hb⟩
   have hd:=zA1 hd hb
   clear hb
   go_wp2_with fail
   refine hKq.out _ _ (HS.out _ (HAX.out.call hd) (HBX.out.call hd)) (fun hHeld2=>?_)
   clear hKq Kq hHeld1
   (try simp only [Act.put,sA,sB,sC])
   refine tkD 4 (some 26) ?_
   refine tkD 5 (some 4) ?_
   refine wpAnyH_done (by kernel_rfl) ?_ _
   have HAX:=LH (HAX.out.call hd)
   have HBX:=LH (HBX.out.call hd)
   have HB:=LH (zA1 HB.out hd)
   clear hHeld2 hd
   go_wp2_with fail
   go_ret
   exact ⟨rfl,HB.out⟩
  ·have db:decide (kb=1∨kb=2∨kb=3)=false:=dF fun h=>fb ((kd3 HK.out.2).1 h)
   have SOB:Hid (∀w',Calls Tryz.prog 52 #[.int .i64 kb] w' fun e w''=>e= .returned (.bool false)∧Below w'.heap.size w' w''):=fun w'=>by
        have h:=zL1 kb w'
        rw [db] at h
        exact h.mono fun e w'' q=>⟨q.1,by rw [q.2];exact bR _ _⟩
   clear db
   refine wp_region_held_drew (S:=(fun w'=>w'.cell? ⟨w.heap.size,0,none⟩=some (.int .i64 ka)∧w'.cell? ⟨w.heap.size+1,0,none⟩=some (.int .i64 kb)∧w'.rangeAt w.heap.size 0 [.int .i64 ka,.string (C.Nm i),.int .i64 (C.Kd i),.int .i64 (C.Ax i),.int .i64 (C.Ay i),.int .i64 (C.Iv i),.int .i64 (C.Gd i),.slice (C.SA i) (C.SN i) (C.SC i),.bool (C.Pt i),.int .i64 (C.Rs i),.string (E.Nm j),.string (E.Fr j),.string (E.To j),.int .i64 (E.Kd j),.int .i64 (E.Ln j),.int .i64 (E.Up j),.int .i64 (E.Dn j),.string (E.Sc j),.int .i64 (E.Wd j),.int .i64 (E.Ht j),.slice (E.CA j) (E.CN j) (E.CC j)]∧w'.rangeAt (w.heap.size+1) 0 [.int .i64 kb,.string (D.Nm i'),.int .i64 (D.Kd i'),.int .i64 (D.Ax i'),.int .i64 (D.Ay i'),.int .i64 (D.Iv i'),.int .i64 (D.Gd i'),.slice (D.SA i') (D.SN i') (D.SC i'),.bool (D.Pt i'),.int .i64 (D.Rs i'),.string (K.Nm j'),.string (K.Fr j'),.string (K.To j'),.int .i64 (K.Kd j'),.int .i64 (K.Ln j'),.int .i64 (K.Up j'),.int .i64 (K.Dn j'),.string (K.Sc j'),.int .i64 (K.Wd j'),.int .i64 (K.Ht j'),.slice (K.CA j') (K.CN j') (K.CC j')])) (by kernel_rfl) ?_ (fun hHeld=>?_)
   ·exact HS.out _ (HAX.out.call (bR w4.heap.size w4).drew) (HBX.out.call (bR w4.heap.size w4).drew)
   refine tkD 0 (some 15) ?_
   refine tkD 1 (some 16) ?_
   refine tkD 3 (some 18) ?_
   refine tkD 4 (some 19) ?_
   have hd:Below w4.heap.size w4 w4.drew:=(bR w4.heap.size w4).drew
   refine wpAnyH_ready (rs:=[2]) (by kernel_rfl) (by simp) ?_
   refine AllReadyH.cons rfl (fun Kq hKq=>?_) AllReadyH.nil
   go_simp
   go_at_call 52
   with_reducible refine (SOA.out _).mono ?_
   rintro e w6 ⟨rfl,hb⟩
   have hd:=zA1 hd hb
   clear hb
   go_wp2_with fail
   refine hKq.out _ _ (HS.out _ (HAX.out.call hd) (HBX.out.call hd)) (fun hHeld1=>?_)
   clear hKq Kq hHeld
   (try simp only [Act.put,sA,sB,sC])
   refine wpAnyH_ready (rs:=[5]) (by kernel_rfl) (by simp) ?_
   refine AllReadyH.cons rfl (fun Kq hKq=>?_) AllReadyH.nil
   go_simp
   go_at_call 52
   with_reducible refine (SOB.out _).mono ?_
   rintro e w7 ⟨rfl,hb⟩
   have hd:=zA1 hd hb
   clear hb
   go_wp2_with fail
   refine hKq.out _ _ (HS.out _ (HAX.out.call hd) (HBX.out.call hd)) (fun hHeld2=>?_)
   clear hKq Kq hHeld1
   (try simp only [Act.put,sA,sB,sC])
   refine tkD 6 (some 21) ?_
   refine tkD 7 (some 14) ?_
   refine wpAnyH_done (by kernel_rfl) ?_ _
   have HAX:=LH (HAX.out.call hd)
   have HBX:=LH (HBX.out.call hd)
   have HB:=LH (zA1 HB.out hd)
   clear hHeld2 hd
   go_upto_region 5 with fail
   have e0:=HBX.out.cell 0
   simp only [chA,List.getElem?_toArray,List.getElem?_cons_zero,List.getElem?_cons_succ] at e0
   go_upto_region 7 with (first
        |(go_at_call 52
          with_reducible refine (SOB.out _).mono ?_
          rintro e w8 ⟨rfl,hb8⟩
          have HAX:=LH (HAX.out.call hb8)
          have HBX:=LH (HBX.out.call hb8)
          have HB:=LH (zA1 HB.out hb8)
          clear hb8 e0))
   have e0:=HBX.out.cell 0
   have e11:=HBX.out.cell 11
   have e12:=HBX.out.cell 12
   have e1:=HAX.out.cell 1
   simp only [chA,List.getElem?_toArray,List.getElem?_cons_zero,List.getElem?_cons_succ] at e0 e11 e12 e1
   obtain ⟨v1,s1,hv1⟩:=ss_dec (K.Fr j') (C.Nm i)
   obtain ⟨v2,s2,hv2⟩:=ss_dec (K.To j') (C.Nm i)
   have hV:V=(decide (kb=6) || (!v1&&!v2)):=by
        have h:V=boolOf (kb=6∨(K.Fr j'≠C.Nm i∧K.To j'≠C.Nm i)):=by
         rw [←HV.out]
         exact boolOf_cong (HI.out.trans (⟨fun h=>by rcases h with ⟨p,q,_⟩|⟨p,q,_⟩|⟨_,_,r⟩|⟨p,q,_⟩<;> first |exact r |omega,fun h=>.inr (.inr (.inl ⟨fa,by omega,h⟩))⟩))
        rw [h]
        by_cases q:kb=6
        ·rw [zA2 (show kb=6∨(K.Fr j'≠C.Nm i∧K.To j'≠C.Nm i) from .inl q),dU q];rfl
        ·rw [dF q,Bool.false_or]
         cases v1<;> cases v2<;> first
          |exact zA2 (.inr ⟨fun g=>absurd (hv1.2 g) (by simp),fun g=>absurd (hv2.2 g) (by simp)⟩)
          |exact zA0 (fun g=>g.elim q fun r=>r.1 (hv1.1 rfl))
          |exact zA0 (fun g=>g.elim q fun r=>r.2 (hv2.1 rfl))
   have HBZ:=HB
   clear hv1 hv2
   by_cases q:kb=6
   ·have t6:(kb==6)=true:=by simpa using q
    rw [dU q,Bool.true_or] at hV
    subst hV
    clear q
    go_wp2_with fail
    go_ret
    exact ⟨rfl,HBZ.out⟩
   ·have t6:(kb==6)=false:=by simpa using q
    rw [dF q,Bool.false_or] at hV
    subst hV
    clear q
    cases v1<;> cases v2
    all_goals
     go_wp2_with fail
     go_ret
     exact ⟨rfl,HBZ.out⟩
 ·have da:decide (ka=1∨ka=2∨ka=3)=false:=dF fun h=>fa ((kd3 HK.out.1).1 h)
  have SOA:Hid (∀w',Calls Tryz.prog 52 #[.int .i64 ka] w' fun e w''=>e= .returned (.bool false)∧Below w'.heap.size w' w''):=fun w'=>by
   have h:=zL1 ka w'
   rw [da] at h
   exact h.mono fun e w'' q=>⟨q.1,by rw [q.2];exact bR _ _⟩
  have SNA:Hid (∀w',Calls Tryz.prog 53 #[.agg #[.int .i64 ka,.string (C.Nm i),.int .i64 (C.Kd i),.int .i64 (C.Ax i),.int .i64 (C.Ay i),.int .i64 (C.Iv i),.int .i64 (C.Gd i),.slice (C.SA i) (C.SN i) (C.SC i),.bool (C.Pt i),.int .i64 (C.Rs i),.string (E.Nm j),.string (E.Fr j),.string (E.To j),.int .i64 (E.Kd j),.int .i64 (E.Ln j),.int .i64 (E.Up j),.int .i64 (E.Dn j),.string (E.Sc j),.int .i64 (E.Wd j),.int .i64 (E.Ht j),.slice (E.CA j) (E.CN j) (E.CC j)]] w' fun e w''=>e= .returned (.string (E.Nm j))∧Below w'.heap.size w' w''):=fun w'=>by
   have h:=sc_name ka i j C E w'
   rw [if_neg fun h=>fa ((kd3 HK.out.1).1 h)] at h
   exact h
  clear da
  by_cases fb:kb≤3
  ·have db:decide (kb=1∨kb=2∨kb=3)=true:=dU ((kd3 HK.out.2).2 fb)
   have SOB:Hid (∀w',Calls Tryz.prog 52 #[.int .i64 kb] w' fun e w''=>e= .returned (.bool true)∧Below w'.heap.size w' w''):=fun w'=>by
        have h:=zL1 kb w'
        rw [db] at h
        exact h.mono fun e w'' q=>⟨q.1,by rw [q.2];exact bR _ _⟩
   clear db
   refine wp_region_held_drew (S:=(fun w'=>w'.cell? ⟨w.heap.size,0,none⟩=some (.int .i64 ka)∧w'.cell? ⟨w.heap.size+1,0,none⟩=some (.int .i64 kb)∧w'.rangeAt w.heap.size 0 [.int .i64 ka,.string (C.Nm i),.int .i64 (C.Kd i),.int .i64 (C.Ax i),.int .i64 (C.Ay i),.int .i64 (C.Iv i),.int .i64 (C.Gd i),.slice (C.SA i) (C.SN i) (C.SC i),.bool (C.Pt i),.int .i64 (C.Rs i),.string (E.Nm j),.string (E.Fr j),.string (E.To j),.int .i64 (E.Kd j),.int .i64 (E.Ln j),.int .i64 (E.Up j),.int .i64 (E.Dn j),.string (E.Sc j),.int .i64 (E.Wd j),.int .i64 (E.Ht j),.slice (E.CA j) (E.CN j) (E.CC j)]∧w'.rangeAt (w.heap.size+1) 0 [.int .i64 kb,.string (D.Nm i'),.int .i64 (D.Kd i'),.int .i64 (D.Ax i'),.int .i64 (D.Ay i'),.int .i64 (D.Iv i'),.int .i64 (D.Gd i'),.slice (D.SA i') (D.SN i') (D.SC i'),.bool (D.Pt i'),.int .i64 (D.Rs i'),.string (K.Nm j'),.string (K.Fr j'),.string (K.To j'),.int .i64 (K.Kd j'),.int .i64 (K.Ln j'),.int .i64 (K.Up j'),.int .i64 (K.Dn j'),.string (K.Sc j'),.int .i64 (K.Wd j'),.int .i64 (K.Ht j'),.slice (K.CA j') (K.CN j') (K.CC j')])) (by kernel_rfl) ?_ (fun hHeld=>?_)
   ·exact HS.out _ (HAX.out.call (bR w4.heap.size w4).drew) (HBX.out.call (bR w4.heap.size w4).drew)
   refine tkD 0 (some 15) ?_
   refine tkD 1 (some 16) ?_
   refine tkD 3 (some 18) ?_
   refine tkD 4 (some 19) ?_
   have hd:Below w4.heap.size w4 w4.drew:=(bR w4.heap.size w4).drew
   refine wpAnyH_ready (rs:=[2]) (by kernel_rfl) (by simp) ?_
   refine AllReadyH.cons rfl (fun Kq hKq=>?_) AllReadyH.nil
   go_simp
   go_at_call 52
   with_reducible refine (SOA.out _).mono ?_
   rintro e w6 ⟨rfl,hb⟩
   have hd:=zA1 hd hb
   clear hb
   go_wp2_with fail
   refine hKq.out _ _ (HS.out _ (HAX.out.call hd) (HBX.out.call hd)) (fun hHeld1=>?_)
   clear hKq Kq hHeld
   (try simp only [Act.put,sA,sB,sC])
   refine wpAnyH_ready (rs:=[5]) (by kernel_rfl) (by simp) ?_
   refine AllReadyH.cons rfl (fun Kq hKq=>?_) AllReadyH.nil
   go_simp
   go_at_call 52
   with_reducible refine (SOB.out _).mono ?_
   rintro e w7 ⟨rfl,hb⟩
   have hd:=zA1 hd hb
   clear hb
   go_wp2_with fail
   refine hKq.out _ _ (HS.out _ (HAX.out.call hd) (HBX.out.call hd)) (fun hHeld2=>?_)
   clear hKq Kq hHeld1
   (try simp only [Act.put,sA,sB,sC])
   refine tkD 6 (some 21) ?_
   refine tkD 7 (some 14) ?_
   refine wpAnyH_done (by kernel_rfl) ?_ _
   have HAX:=LH (HAX.out.call hd)
   have HBX:=LH (HBX.out.call hd)
   have HB:=LH (zA1 HB.out hd)
   clear hHeld2 hd
   go_upto_region 5 with fail
   have e0:=HBX.out.cell 0
   simp only [chA,List.getElem?_toArray,List.getElem?_cons_zero,List.getElem?_cons_succ] at e0
   go_upto_region 6 with (first
        |(go_at_call 52
          with_reducible refine (SOB.out _).mono ?_
          rintro e w8 ⟨rfl,hb8⟩
          have HAX:=LH (HAX.out.call hb8)
          have HBX:=LH (HBX.out.call hb8)
          have HB:=LH (zA1 HB.out hb8)
          clear hb8 e0))
   have HA1:Hid (Blk (w8.setRow w.heap.size (chA kb D i' K j')) w.heap.size 34 (chA kb D i' K j')):=HAX.out.setRow
   have HB1:Hid (Blk (w8.setRow w.heap.size (chA kb D i' K j')) (w.heap.size+1) 34 (chA kb D i' K j')):=HBX.out.farRow (by omega) _
   have HBa:=LH (zB4 (cs':=(chA kb D i' K j')) HB.out HAX.out (nl _))
   have HB2:Hid (Blk ((w8.setRow w.heap.size (chA kb D i' K j')).setRow (w.heap.size+1) (chA ka C i E j)) (w.heap.size+1) 34 (chA ka C i E j)):=HB1.out.setRow
   have HA2:Hid (Blk ((w8.setRow w.heap.size (chA kb D i' K j')).setRow (w.heap.size+1) (chA ka C i E j)) w.heap.size 34 (chA kb D i' K j')):=HA1.out.farRow (by omega) _
   have HB:=LH (zB4 (cs':=(chA ka C i E j)) HBa.out HB1.out (by omega))
   go_upto_region 7 with (first
        |(refine wpList_load_row rfl 34 (.tmp 2) rfl _ rfl _ _ (0,0) _ HAX.out Tryz.underlying34 rfl (by kernel_rfl) ?_)
        |(refine wpList_load_row rfl 34 (.tmp 3) rfl _ rfl _ _ (0,0) _ HBX.out Tryz.underlying34 rfl (by kernel_rfl) ?_)
        |(refine wpList_store_row rfl 34 (.tmp 2) (.tmp 31) rfl w.heap.size (chA kb D i' K j') rfl rfl _ _ HAX.out (by kernel_rfl) rfl (by kernel_rfl) ?_)
        |(refine wpList_store_row rfl 34 (.tmp 3) (.tmp 32) rfl (w.heap.size+1) (chA ka C i E j) rfl rfl _ _ HB1.out (by kernel_rfl) rfl (by kernel_rfl) ?_))
   clear HAX HBX HA1 HB1 HBa
   generalize (w8.setRow w.heap.size (chA kb D i' K j')).setRow (w.heap.size+1) (chA ka C i E j)=w9 at HB2 HA2 HB⊢
   have e0:=HB2.out.cell 0
   have e11:=HB2.out.cell 11
   have e12:=HB2.out.cell 12
   have e1:=HA2.out.cell 1
   simp only [chA,List.getElem?_toArray,List.getElem?_cons_zero,List.getElem?_cons_succ] at e0 e11 e12 e1
   obtain ⟨v1,s1,hv1⟩:=ss_dec (E.Fr j) (D.Nm i')
   obtain ⟨v2,s2,hv2⟩:=ss_dec (E.To j) (D.Nm i')
   have hV:V=(decide (ka=6) || (!v1&&!v2)):=by
        have h:V=boolOf (ka=6∨(E.Fr j≠D.Nm i'∧E.To j≠D.Nm i')):=by
         rw [←HV.out]
         exact boolOf_cong (HI.out.trans (⟨fun h=>by rcases h with ⟨p,q,_⟩|⟨p,q,_⟩|⟨p,q,_⟩|⟨_,_,r⟩<;> first |exact r |omega,fun h=>.inr (.inr (.inr ⟨by omega,fb,h⟩))⟩))
        rw [h]
        by_cases q:ka=6
        ·rw [zA2 (show ka=6∨(E.Fr j≠D.Nm i'∧E.To j≠D.Nm i') from .inl q),dU q];rfl
        ·rw [dF q,Bool.false_or]
         cases v1<;> cases v2<;> first
          |exact zA2 (.inr ⟨fun g=>absurd (hv1.2 g) (by simp),fun g=>absurd (hv2.2 g) (by simp)⟩)
          |exact zA0 (fun g=>g.elim q fun r=>r.1 (hv1.1 rfl))
          |exact zA0 (fun g=>g.elim q fun r=>r.2 (hv2.1 rfl))
   have HBZ:=HB
   clear hv1 hv2
   by_cases q:ka=6
   ·have t6:(ka==6)=true:=by simpa using q
    rw [dU q,Bool.true_or] at hV
    subst hV
    clear q
    go_wp2_with fail
    go_ret
    exact ⟨rfl,HBZ.out⟩
   ·have t6:(ka==6)=false:=by simpa using q
    rw [dF q,Bool.false_or] at hV
    subst hV
    clear q
    cases v1<;> cases v2
    all_goals
     go_wp2_with fail
     go_ret
     exact ⟨rfl,HBZ.out⟩
  ·have db:decide (kb=1∨kb=2∨kb=3)=false:=dF fun h=>fb ((kd3 HK.out.2).1 h)
   have SOB:Hid (∀w',Calls Tryz.prog 52 #[.int .i64 kb] w' fun e w''=>e= .returned (.bool false)∧Below w'.heap.size w' w''):=fun w'=>by
        have h:=zL1 kb w'
        rw [db] at h
        exact h.mono fun e w'' q=>⟨q.1,by rw [q.2];exact bR _ _⟩
   have SNB:Hid (∀w',Calls Tryz.prog 53 #[.agg #[.int .i64 kb,.string (D.Nm i'),.int .i64 (D.Kd i'),.int .i64 (D.Ax i'),.int .i64 (D.Ay i'),.int .i64 (D.Iv i'),.int .i64 (D.Gd i'),.slice (D.SA i') (D.SN i') (D.SC i'),.bool (D.Pt i'),.int .i64 (D.Rs i'),.string (K.Nm j'),.string (K.Fr j'),.string (K.To j'),.int .i64 (K.Kd j'),.int .i64 (K.Ln j'),.int .i64 (K.Up j'),.int .i64 (K.Dn j'),.string (K.Sc j'),.int .i64 (K.Wd j'),.int .i64 (K.Ht j'),.slice (K.CA j') (K.CN j') (K.CC j')]] w' fun e w''=>e= .returned (.string (K.Nm j'))∧Below w'.heap.size w' w''):=fun w'=>by
        have h:=sc_name kb i' j' D K w'
        rw [if_neg fun h=>fb ((kd3 HK.out.2).1 h)] at h
        exact h
   obtain ⟨v1,s1,hv1⟩:=ss_dec (E.Nm j) (K.Nm j')
   have hV:V= !v1:=by
        rw [←HV.out,boolOf_cong (HI.out.trans (show _↔E.Nm j≠K.Nm j' from ⟨fun h=>by rcases h with ⟨p,_,_⟩|⟨_,_,r⟩|⟨p,_,_⟩|⟨_,p,_⟩<;> first |exact r |omega,fun h=>.inr (.inl ⟨by omega,by omega,h⟩)⟩))]
        cases v1
        ·exact zA2 fun g=>absurd (hv1.2 g) (by simp)
        ·exact zA0 fun g=>g (hv1.1 rfl)
   subst hV
   clear fa fb db hv1
   refine wp_region_held_drew (S:=(fun w'=>w'.cell? ⟨w.heap.size,0,none⟩=some (.int .i64 ka)∧w'.cell? ⟨w.heap.size+1,0,none⟩=some (.int .i64 kb)∧w'.rangeAt w.heap.size 0 [.int .i64 ka,.string (C.Nm i),.int .i64 (C.Kd i),.int .i64 (C.Ax i),.int .i64 (C.Ay i),.int .i64 (C.Iv i),.int .i64 (C.Gd i),.slice (C.SA i) (C.SN i) (C.SC i),.bool (C.Pt i),.int .i64 (C.Rs i),.string (E.Nm j),.string (E.Fr j),.string (E.To j),.int .i64 (E.Kd j),.int .i64 (E.Ln j),.int .i64 (E.Up j),.int .i64 (E.Dn j),.string (E.Sc j),.int .i64 (E.Wd j),.int .i64 (E.Ht j),.slice (E.CA j) (E.CN j) (E.CC j)]∧w'.rangeAt (w.heap.size+1) 0 [.int .i64 kb,.string (D.Nm i'),.int .i64 (D.Kd i'),.int .i64 (D.Ax i'),.int .i64 (D.Ay i'),.int .i64 (D.Iv i'),.int .i64 (D.Gd i'),.slice (D.SA i') (D.SN i') (D.SC i'),.bool (D.Pt i'),.int .i64 (D.Rs i'),.string (K.Nm j'),.string (K.Fr j'),.string (K.To j'),.int .i64 (K.Kd j'),.int .i64 (K.Ln j'),.int .i64 (K.Up j'),.int .i64 (K.Dn j'),.string (K.Sc j'),.int .i64 (K.Wd j'),.int .i64 (K.Ht j'),.slice (K.CA j') (K.CN j') (K.CC j')])) (by kernel_rfl) ?_ (fun hHeld=>?_)
   ·exact HS.out _ (HAX.out.call (bR w4.heap.size w4).drew) (HBX.out.call (bR w4.heap.size w4).drew)
   refine tkD 0 (some 15) ?_
   refine tkD 1 (some 16) ?_
   refine tkD 3 (some 18) ?_
   refine tkD 4 (some 19) ?_
   have hd:Below w4.heap.size w4 w4.drew:=(bR w4.heap.size w4).drew
   refine wpAnyH_ready (rs:=[2]) (by kernel_rfl) (by simp) ?_
   refine AllReadyH.cons rfl (fun Kq hKq=>?_) AllReadyH.nil
   go_simp
   go_at_call 52
   with_reducible refine (SOA.out _).mono ?_
   rintro e w6 ⟨rfl,hb⟩
   have hd:=zA1 hd hb
   clear hb
   go_wp2_with fail
   refine hKq.out _ _ (HS.out _ (HAX.out.call hd) (HBX.out.call hd)) (fun hHeld1=>?_)
   clear hKq Kq hHeld
   (try simp only [Act.put,sA,sB,sC])
   refine wpAnyH_ready (rs:=[5]) (by kernel_rfl) (by simp) ?_
   refine AllReadyH.cons rfl (fun Kq hKq=>?_) AllReadyH.nil
   go_simp
   go_at_call 52
   with_reducible refine (SOB.out _).mono ?_
   rintro e w7 ⟨rfl,hb⟩
   have hd:=zA1 hd hb
   clear hb
   go_wp2_with fail
   refine hKq.out _ _ (HS.out _ (HAX.out.call hd) (HBX.out.call hd)) (fun hHeld2=>?_)
   clear hKq Kq hHeld1
   (try simp only [Act.put,sA,sB,sC])
   refine tkD 6 (some 21) ?_
   refine tkD 7 (some 14) ?_
   refine wpAnyH_done (by kernel_rfl) ?_ _
   have HAX:=LH (HAX.out.call hd)
   have HBX:=LH (HBX.out.call hd)
   have HB:=LH (zA1 HB.out hd)
   clear hHeld2 hd
   go_upto_region 4 with fail
   refine wp_region_held_drew (S:=(fun w'=>w'.cell? ⟨w.heap.size,0,none⟩=some (.int .i64 ka)∧w'.cell? ⟨w.heap.size+1,0,none⟩=some (.int .i64 kb)∧w'.rangeAt w.heap.size 0 [.int .i64 ka,.string (C.Nm i),.int .i64 (C.Kd i),.int .i64 (C.Ax i),.int .i64 (C.Ay i),.int .i64 (C.Iv i),.int .i64 (C.Gd i),.slice (C.SA i) (C.SN i) (C.SC i),.bool (C.Pt i),.int .i64 (C.Rs i),.string (E.Nm j),.string (E.Fr j),.string (E.To j),.int .i64 (E.Kd j),.int .i64 (E.Ln j),.int .i64 (E.Up j),.int .i64 (E.Dn j),.string (E.Sc j),.int .i64 (E.Wd j),.int .i64 (E.Ht j),.slice (E.CA j) (E.CN j) (E.CC j)]∧w'.rangeAt (w.heap.size+1) 0 [.int .i64 kb,.string (D.Nm i'),.int .i64 (D.Kd i'),.int .i64 (D.Ax i'),.int .i64 (D.Ay i'),.int .i64 (D.Iv i'),.int .i64 (D.Gd i'),.slice (D.SA i') (D.SN i') (D.SC i'),.bool (D.Pt i'),.int .i64 (D.Rs i'),.string (K.Nm j'),.string (K.Fr j'),.string (K.To j'),.int .i64 (K.Kd j'),.int .i64 (K.Ln j'),.int .i64 (K.Up j'),.int .i64 (K.Dn j'),.string (K.Sc j'),.int .i64 (K.Wd j'),.int .i64 (K.Ht j'),.slice (K.CA j') (K.CN j') (K.CC j')])) (by kernel_rfl) ?_ (fun hHeld=>?_)
   ·exact HS.out _ (HAX.out.call (bR w7.heap.size w7).drew) (HBX.out.call (bR w7.heap.size w7).drew)
   refine tkD 0 (some 22) ?_ (hy:=yieldsIf_load_mid (by rfl) 34 (.tmp 2) rfl w.heap.size 0 rfl _ _ (fun w h=>h.2.2.1) Tryz.underlying34 rfl (by kernel_rfl))
   refine tkD 2 (some 24) ?_ (hy:=yieldsIf_load_mid (by rfl) 34 (.tmp 3) rfl (w.heap.size+1) 0 rfl _ _ (fun w h=>h.2.2.2) Tryz.underlying34 rfl (by kernel_rfl))
   have hd:Below w7.heap.size w7 w7.drew:=(bR w7.heap.size w7).drew
   refine wpAnyH_ready (rs:=[1]) (by kernel_rfl) (by simp) ?_
   refine AllReadyH.cons rfl (fun Kq hKq=>?_) AllReadyH.nil
   go_simp
   go_at_call 53
   with_reducible refine (SNA.out _).mono ?_
   rintro e w6 ⟨rfl,hb⟩
   have hd:=zA1 hd hb
   clear hb
   go_wp2_with fail
   refine hKq.out _ _ (HS.out _ (HAX.out.call hd) (HBX.out.call hd)) (fun hHeld1=>?_)
   clear hKq Kq hHeld
   (try simp only [Act.put,sA,sB,sC])
   refine wpAnyH_ready (rs:=[3]) (by kernel_rfl) (by simp) ?_
   refine AllReadyH.cons rfl (fun Kq hKq=>?_) AllReadyH.nil
   go_simp
   go_at_call 53
   with_reducible refine (SNB.out _).mono ?_
   rintro e w7 ⟨rfl,hb⟩
   have hd:=zA1 hd hb
   clear hb
   go_wp2_with fail
   refine hKq.out _ _ (HS.out _ (HAX.out.call hd) (HBX.out.call hd)) (fun hHeld2=>?_)
   clear hKq Kq hHeld1
   (try simp only [Act.put,sA,sB,sC])
   refine tkD 4 (some 26) ?_
   refine tkD 5 (some 4) ?_
   refine wpAnyH_done (by kernel_rfl) ?_ _
   have HAX:=LH (HAX.out.call hd)
   have HBX:=LH (HBX.out.call hd)
   have HB:=LH (zA1 HB.out hd)
   clear hHeld2 hd
   go_wp2_with fail
   go_ret
   exact ⟨rfl,HB.out⟩
end Go.Proofs.YtchakniaoeodmaaGreatDoor

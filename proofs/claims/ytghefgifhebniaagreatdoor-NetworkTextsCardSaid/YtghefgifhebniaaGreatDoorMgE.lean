/- Merged texts of these proofs: NEd, NEe, NEf. -/
import Derived.Test.YtghefgifhebniaaGreatDoorNetV
import Derived.Test.YtghefgifhebniaaGreatDoorMgD
import Derived.Test.YtghefgifhebniaaGreatDoorEdg
namespace Go.Proofs.YtghefgifhebniaaGreatDoor
open Go.RowKit Go.Sort
set_option linter.unusedVariables false
set_option linter.unusedSimpArgs false
theorem netP_ed {D:Nds} {K:Lks} {n m:Nat} (h:netP D n K m):EdOK n (eX D n K) (eY D n K) m:=by
 have key:∀s,0≤fnd D.Nm n s→fnd D.Nm n s<n:=fun s h=>by
  rcases fnd_bd D.Nm n s with h0 |⟨k,hk,e,_⟩<;> omega
 exact ⟨fun k hk=>⟨(h.2.2.2 k hk).2.2.1,key _ (h.2.2.2 k hk).2.2.1⟩,fun k hk=>⟨(h.2.2.2 k hk).2.2.2.1,key _ (h.2.2.2 k hk).2.2.2.1⟩⟩
theorem EMem.tab {w wr:World} {u:Value} {m:Nat} {X Y:Nat→Int} (h:EMem w wr u m (edl m X Y)) (hm:m≤2000):∃A c,u= .slice A m c∧TabIn wr A m X Y:=by
 rcases h.1.2 with ⟨hv,h0⟩|⟨g,cap,cur,hv,_⟩
 ·subst hv
  exact ⟨none,0,by rw [h0],by omega,.inl h0⟩
 ·subst hv
  refine ⟨_,cap,rfl,by omega,.inr ⟨g,0,rfl,(h.1.lt g rfl).2,fun k hk=>?_⟩⟩
  have hk':k<(edl m X Y).length:=by rw [zG9];exact hk
  obtain ⟨a,b⟩:=kc_at _ k hk'
  obtain ⟨a',b'⟩:=edl_at (X:=X) (Y:=Y) hk
  rw [a'] at a
  rw [b'] at b
  have hl:(kc (edl m X Y)).length=m*2:=by rw [kc_len,zG9]
  have c1:=(h.1.cellAt (k*2) (by omega)).trans a
  have c2:=(h.1.cellAt (k*2+1) (by omega)).trans b
  simp only [Nat.zero_add]
  exact ⟨c1,c2⟩
def EdgPost (D:Nds) (n:Nat) (K:Lks) (m:Nat) (w:World) (e:Ending) (w':World):Prop:=
 (¬netP D n K m∧e= .returned (.tuple #[.slice none 0 0,.int .i64 1])∧Below w.heap.size w w')∨(netP D n K m∧∃u,e= .returned (.tuple #[u,.int .i64 0])∧EMem w w' u m (edl m (eX D n K) (eY D n K)))
set_option maxRecDepth 100000 in
set_option maxHeartbeats 4000000 in
theorem tnedges (NA LA:Option Addr) (n nc m lc:Nat) (D:Nds) (K:Lks) (hz:NetSz D n K m) (w:World) (hD:NdIn w NA n D) (hK:LkIn w LA m K):
 Calls Tryz.prog 16 #[.agg #[.slice NA n nc,.slice LA m lc]] w (EdgPost D n K m w):=by
 have hal:Below w.heap.size w (w.alloc (Obj.cells #[.slice NA n nc,.slice LA m lc] 25)):=(bR _ w).alloc (nl _) _
 have HAL:=LH hal
 have HB0:Hid (Blk (w.alloc (Obj.cells #[.slice NA n nc,.slice LA m lc] 25)) w.heap.size 25 #[.slice NA n nc,.slice LA m lc]):=Blk.new _ _ _
 have SV:=LH (nvalid NA LA n nc m lc D K hz _ (hD.below (nl _) hal) (hK.below (nl _) hal))
 have SE:Hid (∀w',Below w.heap.size w w'→Calls Tryz.prog 56 #[.agg #[.slice NA n nc,.slice LA m lc]] w' (EdPost m (eX D n K) (eY D n K) w')):=fun w' hb=>nedges NA LA n nc m lc D K w' hz.n2 hz.m2 (hD.below (nl _) hb) (hK.below (nl _) hb)
 clear hz hD hK hal
 by_cases hv:netP D n K m
 ·rw [zA2 hv] at SV
  have HV:=LH hv
  clear hv
  go_enter Tryz.func16,Tryz.ntmps16
  go_wp2_with (first
   |(go_at_call 36
     with_reducible refine SV.out.mono ?_
     rintro e w1 ⟨rfl,hb1⟩
     have HB1:=LH (zA1 HAL.out hb1)
     obtain ⟨y0,y1⟩:=blk2 (HB0.out.call hb1)
     clear hb1)
   |(go_at_call 56
     with_reducible refine (SE.out _ HB1.out).mono ?_
     rintro e w2 ⟨u,rfl,ho⟩
     have HO:=LH ho
     obtain ⟨A2,c2,rfl⟩:=ho.form
     clear ho))
  go_ret2
  exact .inr ⟨HV.out,_,rfl,zI8 HO.out.1 HB1.out.size,zA1 HB1.out HO.out.2⟩
 ·rw [zA0 hv] at SV
  have HV:=LH hv
  clear hv SE
  go_enter Tryz.func16,Tryz.ntmps16
  go_wp2_with (first
   |(go_at_call 36
     with_reducible refine SV.out.mono ?_
     rintro e w1 ⟨rfl,hb1⟩
     have HB1:=LH (zA1 HAL.out hb1)
     clear hb1))
  go_ret2
  exact .inl ⟨HV.out,rfl,HB1.out⟩
def OrdPost3 (D:Nds) (n:Nat) (K:Lks) (m:Nat) (w:World) (e:Ending) (w':World):Prop:=
 (¬netP D n K m∧e= .returned (.tuple #[.slice none 0 0,.int .i64 1])∧Below w.heap.size w w')∨(netP D n K m∧OrdPost2 n (eX D n K) (eY D n K) m w e w')
set_option maxRecDepth 100000 in
set_option maxHeartbeats 4000000 in
theorem tnorder (NA LA:Option Addr) (n nc m lc:Nat) (D:Nds) (K:Lks) (hz:NetSz D n K m) (w:World) (hD:NdIn w NA n D) (hK:LkIn w LA m K):
 Calls Tryz.prog 17 #[.agg #[.slice NA n nc,.slice LA m lc]] w (OrdPost3 D n K m w):=by
 have hal:Below w.heap.size w (w.alloc (Obj.cells #[.slice NA n nc,.slice LA m lc] 25)):=(bR _ w).alloc (nl _) _
 have HAL:=LH hal
 have HB0:Hid (Blk (w.alloc (Obj.cells #[.slice NA n nc,.slice LA m lc] 25)) w.heap.size 25 #[.slice NA n nc,.slice LA m lc]):=Blk.new _ _ _
 have SV:=LH (nvalid NA LA n nc m lc D K hz _ (hD.below (nl _) hal) (hK.below (nl _) hal))
 have SE:Hid (∀w',Below w.heap.size w w'→Calls Tryz.prog 56 #[.agg #[.slice NA n nc,.slice LA m lc]] w' (EdPost m (eX D n K) (eY D n K) w')):=fun w' hb=>nedges NA LA n nc m lc D K w' hz.n2 hz.m2 (hD.below (nl _) hb) (hK.below (nl _) hb)
 have HM2:Hid (m≤2000):=hz.m2
 clear hz hD hK hal
 by_cases hv:netP D n K m
 ·rw [zA2 hv] at SV
  have HV:=LH hv
  have SO:Hid (∀w' A c,TabIn w' A m (eX D n K) (eY D n K)→Calls Tryz.prog 57 #[.int .i64 n,.slice A m c] w' (OrdPost2 n (eX D n K) (eY D n K) m w')):=fun w' A c ht=>dOrder A n m c _ _ w' hv.1 (by have:=hv.2.1;omega) (netP_ed hv) ht
  clear hv
  go_enter Tryz.func17,Tryz.ntmps17
  go_upto_region 3 with (first
   |(go_at_call 36
     with_reducible refine SV.out.mono ?_
     rintro e w1 ⟨rfl,hb1⟩
     have HB1:=LH (zA1 HAL.out hb1)
     have HBB:=LH (HB0.out.call hb1)
     clear hb1))
  have hs0:w1.cell? ⟨w.heap.size,0,none⟩=some (.slice NA n nc)∧w1.cell? ⟨w.heap.size,1,none⟩=some (.slice LA m lc):=blk2 HBB.out
  have HS:Hid (∀w',Below w1.heap.size w1 w'→w'.cell? ⟨w.heap.size,0,none⟩=some (.slice NA n nc)∧w'.cell? ⟨w.heap.size,1,none⟩=some (.slice LA m lc)):=fun w' hb=>blk2 (HBB.out.call hb)
  go_region_held3 (fun w'=>w'.cell? ⟨w.heap.size,0,none⟩=some (.slice NA n nc)∧w'.cell? ⟨w.heap.size,1,none⟩=some (.slice LA m lc)) (first
   |exact hs0
   |exact HS.out _ hq2
   |exact HS.out _ (hq2.trans (hq3.mono hq2.size))
   |exact HS.out _ (bR _ w1).drew) (first
   |(go_at_call 56
     with_reducible refine (SE.out _ ?_).mono ?_
     focus (first |exact HB1.out |exact HB1.out.drew)
     rintro e w2 ⟨u,rfl,ho⟩
     have HO:Hid (EMem w1 w2 u m (edl m (eX D n K) (eY D n K))):=by first |exact ho |exact ⟨ho.1,(bR _ w1).drew.trans ho.2⟩
     have hq2:Below w1.heap.size w1 w2:=HO.out.2
     have HQ2:=LH hq2
     obtain ⟨A2,c2,rfl,ht2⟩:=HO.out.tab HM2.out
     have HT2:=LH ht2
     clear ho ht2)
   |(go_at_call 57
     with_reducible refine (SO.out _ _ _ HT2.out).mono ?_
     rintro e w3 ⟨u3,rfl,ho3,hb3⟩
     have hq3:=hb3
     obtain ⟨A3,c3,rfl⟩:=zE5 ho3
     have HO3:=LH ho3
     have HB3:=LH (zA1 HQ2.out hb3)
     clear ho3 hb3))
  all_goals
   go_wp2_with fail
   go_ret2
   exact .inr ⟨HV.out,_,rfl,zI8 HO3.out (nT HB1.out.size HQ2.out.size),zA1 HB1.out HB3.out⟩
 ·rw [zA0 hv] at SV
  have HV:=LH hv
  clear hv SE
  go_enter Tryz.func17,Tryz.ntmps17
  go_wp2_with (first
   |(go_at_call 36
     with_reducible refine SV.out.mono ?_
     rintro e w1 ⟨rfl,hb1⟩
     have HB1:=LH (zA1 HAL.out hb1)
     clear hb1))
  go_ret2
  exact .inl ⟨HV.out,rfl,HB1.out⟩
def WysPost (D:Nds) (n:Nat) (K:Lks) (m:Nat) (X Y:Nat→Int) (s:ByteArray) (w:World) (e:Ending) (w':World):Prop:=
 (¬netP D n K m∧e= .returned (.tuple #[.slice none 0 0,.int .i64 1])∧Below w.heap.size w w')∨(netP D n K m∧WayPost D n X Y m (fnd D.Nm n s) w e w')
theorem WayPost.lift {D:Nds} {n m:Nat} {X Y:Nat→Int} {i:Int} {w w1 w':World} {e:Ending} (h:WayPost D n X Y m i w1 e w') (hb:Below w.heap.size w w1):WayPost D n X Y m i w e w':=by
 rcases h with ⟨a,b,c⟩|⟨a,u,b,c⟩
 ·exact .inl ⟨a,b,zA1 hb c⟩
 ·exact .inr ⟨a,u,b,zI8 c.1 hb.size,zA1 hb c.2⟩
theorem WayPost.shape {D:Nds} {n m:Nat} {X Y:Nat→Int} {i:Int} {w1 w':World} {e:Ending} (h:WayPost D n X Y m i w1 e w'):∃(A:Option Addr) (N c:Nat) (z:Int),e= .returned (.tuple #[.slice A N c,.int .i64 z]):=by
 rcases h with ⟨a,b,c⟩|⟨a,u,b,c⟩
 ·exact ⟨none,0,0,9,b⟩
 ·obtain ⟨A,cc,rfl⟩:=zE5 c.1
  exact ⟨A,_,cc,0,b⟩
set_option maxRecDepth 100000 in
set_option maxHeartbeats 4000000 in
theorem tnbelow (NA LA:Option Addr) (n nc m lc:Nat) (D:Nds) (K:Lks) (s:ByteArray) (hz:NetSz D n K m) (w:World) (hD:NdIn w NA n D) (hK:LkIn w LA m K):
 Calls Tryz.prog 24 #[.agg #[.slice NA n nc,.slice LA m lc],.string s] w (WysPost D n K m (eX D n K) (eY D n K) s w):=by
 have hal:Below w.heap.size w (w.alloc (Obj.cells #[.slice NA n nc,.slice LA m lc] 25)):=(bR _ w).alloc (nl _) _
 have HAL:=LH hal
 have HB0:Hid (Blk (w.alloc (Obj.cells #[.slice NA n nc,.slice LA m lc] 25)) w.heap.size 25 #[.slice NA n nc,.slice LA m lc]):=Blk.new _ _ _
 have SV:=LH (nvalid NA LA n nc m lc D K hz _ (hD.below (nl _) hal) (hK.below (nl _) hal))
 have SE:Hid (∀w',Below w.heap.size w w'→Calls Tryz.prog 56 #[.agg #[.slice NA n nc,.slice LA m lc]] w' (EdPost m (eX D n K) (eY D n K) w')):=fun w' hb=>nedges NA LA n nc m lc D K w' hz.n2 hz.m2 (hD.below (nl _) hb) (hK.below (nl _) hb)
 have HM2:Hid (m≤2000):=hz.m2
 by_cases hv:netP D n K m
 ·rw [zA2 hv] at SV
  have HV:=LH hv
  have SO:Hid (∀w' A c,Below w.heap.size w w'→TabIn w' A m (eX D n K) (eY D n K)→Calls Tryz.prog 61 #[.agg #[.slice NA n nc,.slice LA m lc],.string s,.slice A m c] w' (WayPost D n (eX D n K) (eY D n K) m (fnd D.Nm n s) w')):=fun w' A c hb ht=>nways NA LA A n nc m lc m c D _ _ s w' hv.1 (by have:=hv.2.1;omega) (netP_ed hv) (hD.below (nl _) hb) ht
  clear hv hz hD hK hal
  go_enter Tryz.func24,Tryz.ntmps24
  go_upto_region 3 with (first
   |(go_at_call 36
     with_reducible refine SV.out.mono ?_
     rintro e w1 ⟨rfl,hb1⟩
     have HB1:=LH (zA1 HAL.out hb1)
     have HBB:=LH (HB0.out.call hb1)
     clear hb1))
  have hs0:w1.cell? ⟨w.heap.size,0,none⟩=some (.slice NA n nc)∧w1.cell? ⟨w.heap.size,1,none⟩=some (.slice LA m lc):=blk2 HBB.out
  have HS:Hid (∀w',Below w1.heap.size w1 w'→w'.cell? ⟨w.heap.size,0,none⟩=some (.slice NA n nc)∧w'.cell? ⟨w.heap.size,1,none⟩=some (.slice LA m lc)):=fun w' hb=>blk2 (HBB.out.call hb)
  go_region_held3 (fun w'=>w'.cell? ⟨w.heap.size,0,none⟩=some (.slice NA n nc)∧w'.cell? ⟨w.heap.size,1,none⟩=some (.slice LA m lc)) (first
   |exact hs0
   |exact HS.out _ hq2
   |exact HS.out _ (hq2.trans (hq3.mono hq2.size))
   |exact HS.out _ (bR _ w1).drew) (first
   |(go_at_call 56
     with_reducible refine (SE.out _ ?_).mono ?_
     focus (first |exact HB1.out |exact HB1.out.drew)
     rintro e w2 ⟨u,rfl,ho⟩
     have HO:Hid (EMem w1 w2 u m (edl m (eX D n K) (eY D n K))):=by first |exact ho |exact ⟨ho.1,(bR _ w1).drew.trans ho.2⟩
     have hq2:Below w1.heap.size w1 w2:=HO.out.2
     have HQ2:=LH hq2
     obtain ⟨A2,c2,rfl,ht2⟩:=HO.out.tab HM2.out
     have HT2:=LH ht2
     clear ho ht2)
   |(go_at_call 61
     with_reducible refine (SO.out _ _ _ (zA1 HB1.out HQ2.out) HT2.out).mono ?_
     intro e w3 ho3
     have hb3:Below w2.heap.size w2 w3:=by rcases ho3 with ⟨_,_,h⟩|⟨_,_,_,h⟩;exact h;exact h.2
     have hq3:=hb3
     obtain ⟨A3,N3,c3,z3,rfl⟩:=ho3.shape
     have HO3:=LH ho3
     clear ho3 hb3))
  all_goals
   go_wp2_with fail
   go_ret2
   exact .inr ⟨HV.out,HO3.out.lift (zA1 HB1.out HQ2.out)⟩
 ·rw [zA0 hv] at SV
  have HV:=LH hv
  clear hv SE hz hD hK hal
  go_enter Tryz.func24,Tryz.ntmps24
  go_wp2_with (first
   |(go_at_call 36
     with_reducible refine SV.out.mono ?_
     rintro e w1 ⟨rfl,hb1⟩
     have HB1:=LH (zA1 HAL.out hb1)
     clear hb1))
  go_ret2
  exact .inl ⟨HV.out,rfl,HB1.out⟩
theorem TabAt.swap {w:World} {b off m k:Nat} {F G:Nat→Int} {t:TypeId} {cs:Array Value} (h:TabAt w b off m F G) (hB:Blk w b t cs) (hk:k<m) (a c:Int):
 TabAt ((w.setCell ⟨b,off+k*2,none⟩ (.int .i64 a)).setCell ⟨b,off+k*2+1,none⟩ (.int .i64 c)) b off m (fun i=>if i=k then a else F i) (fun i=>if i=k then c else G i)∧
 Blk ((w.setCell ⟨b,off+k*2,none⟩ (.int .i64 a)).setCell ⟨b,off+k*2+1,none⟩ (.int .i64 c)) b t ((cs.setIfInBounds (off+k*2) (.int .i64 a)).setIfInBounds (off+k*2+1) (.int .i64 c)):=by
 have hB2:=(hB.set_ (off+k*2) (.int .i64 a)).set_ (off+k*2+1) (.int .i64 c)
 refine ⟨⟨hB2.lt,fun i hi=>?_⟩,hB2⟩
 obtain ⟨h1,h2⟩:=h.2 i hi
 obtain ⟨h3,h4⟩:=h.2 k hk
 rw [hB.cell] at h1 h2 h3 h4
 have l1:off+k*2<cs.size:=by rcases Nat.lt_or_ge (off+k*2) cs.size with q |q;exact q;rw [Array.getElem?_eq_none q] at h3;cases h3
 have l2:off+k*2+1<cs.size:=by rcases Nat.lt_or_ge (off+k*2+1) cs.size with q |q;exact q;rw [Array.getElem?_eq_none q] at h4;cases h4
 rw [hB2.cell,hB2.cell]
 dsimp only
 by_cases e:i=k
 ·subst e
  rw [if_pos rfl,if_pos rfl]
  constructor
  ·rw [Array.getElem?_setIfInBounds_ne (by omega),Array.getElem?_setIfInBounds_self_of_lt l1]
  ·rw [Array.getElem?_setIfInBounds_self_of_lt (by simpa using l2)]
 ·rw [if_neg e,if_neg e]
  constructor
  ·rw [Array.getElem?_setIfInBounds_ne (by omega),Array.getElem?_setIfInBounds_ne (by omega)];exact h1
  ·rw [Array.getElem?_setIfInBounds_ne (by omega),Array.getElem?_setIfInBounds_ne (by omega)];exact h2
theorem TabIn.congr {w:World} {A:Option Addr} {n:Nat} {F G F' G':Nat→Int} (h:TabIn w A n F G) (h1:∀i,i<n→F i=F' i∧G i=G' i):TabIn w A n F' G':=by
 refine ⟨h.1,?_⟩
 rcases h.2 with h0 |⟨b,off,hb,h2,h3⟩
 ·exact .inl h0
 ·exact .inr ⟨b,off,hb,h2,fun k hk=>by rw [←(h1 k hk).1,←(h1 k hk).2];exact h3 k hk⟩
theorem EMem.blk' {w wr:World} {u:Value} {m:Nat} {X Y:Nat→Int} {A:Option Addr} {c:Nat} (h:EMem w wr u m (edl m X Y)) (hu:u= .slice A m c):∃g off,(m≠0→A=some ⟨g,off,none⟩∧w.heap.size≤g)∧(m≠0→∃cs,Blk wr g 38 cs):=by
 rcases h.1.2 with ⟨hv,h0⟩|⟨g,cap,cur,hv,hg,hb,_⟩
 ·exact ⟨0,0,fun hm=>absurd h0 hm,fun hm=>absurd h0 hm⟩
 ·subst hv
  cases hu
  exact ⟨g,0,fun _=>⟨rfl,(h.1.lt g rfl).1⟩,fun _=>⟨_,hb⟩⟩
def swp (k:Nat) (F G:Nat→Int) (i:Nat):Int:=if i<k then G i else F i
theorem swp_succ (k:Nat) (F G:Nat→Int) (i:Nat):swp (k+1) F G i=if i=k then G i else swp k F G i:=by
 unfold swp
 by_cases e:i=k
 ·rw [if_pos e,if_pos (by omega)]
 ·rw [if_neg e]
  by_cases e2:i<k
  ·rw [if_pos e2,if_pos (by omega)]
  ·rw [if_neg e2,if_neg (by omega)]
structure AbvI (w wr:World) (NA LA A:Option Addr) (n nc m lc:Nat) (X Y:Nat→Int) (k:Nat):Prop where
 tab:TabIn wr A m (swp k X Y) (swp k Y X)
 net:Blk wr w.heap.size 25 #[.slice NA n nc,.slice LA m lc]
 bl:Below w.heap.size w wr
 at_:m≠0→∃g off cs,A=some ⟨g,off,none⟩∧w.heap.size<g∧Blk wr g 38 cs
theorem AbvI.call {w wr w':World} {NA LA A:Option Addr} {n nc m lc:Nat} {X Y:Nat→Int} {k:Nat} (h:AbvI w wr NA LA A n nc m lc X Y k) (hb:Below wr.heap.size wr w'):AbvI w w' NA LA A n nc m lc X Y k:=
 ⟨h.tab.below (nl _) hb,h.net.call hb,zA1 h.bl hb,fun hm=>by obtain ⟨g,off,cs,a,b,c⟩:=h.at_ hm;exact ⟨g,off,cs,a,b,c.call hb⟩⟩
theorem AbvI.turn {w wr:World} {NA LA:Option Addr} {n nc m lc g off k:Nat} {X Y:Nat→Int} (h:AbvI w wr NA LA (some ⟨g,off,none⟩) n nc m lc X Y k) (hk:k<m):AbvI w ((wr.setCell ⟨g,off+k*2,none⟩ (.int .i64 (Y k))).setCell ⟨g,off+k*2+1,none⟩ (.int .i64 (X k))) NA LA (some ⟨g,off,none⟩) n nc m lc X Y (k+1):=by
 obtain ⟨g',off',cs,e,hg,hb⟩:=h.at_ (by omega)
 cases e
 rcases h.tab.2 with h0 |⟨b,o,e,ht⟩
 ·omega
 cases e
 obtain ⟨t1,t2⟩:=ht.swap hb hk (Y k) (X k)
 have hsz:((wr.setCell ⟨g,off+k*2,none⟩ (.int .i64 (Y k))).setCell ⟨g,off+k*2+1,none⟩ (.int .i64 (X k))).heap.size=wr.heap.size:=by simp [World.setCell]
 refine ⟨?_,(h.net.far (by show w.heap.size≠g;omega) _).far (by show w.heap.size≠g;omega) _,(h.bl.setCell (p:=⟨g,off+k*2,none⟩) (by show w.heap.size≤g;omega) _).setCell (p:=⟨g,off+k*2+1,none⟩) (by show w.heap.size≤g;omega) _,fun _=>⟨g,off,_,rfl,hg,t2⟩⟩
 refine TabIn.congr ⟨h.tab.1,.inr ⟨g,off,rfl,t1⟩⟩ fun i hi=>⟨?_,?_⟩
 ·rw [swp_succ];by_cases e:i=k
  ·rw [if_pos e,if_pos e,e]
  ·rw [if_neg e,if_neg e]
 ·rw [swp_succ];by_cases e:i=k
  ·rw [if_pos e,if_pos e,e]
  ·rw [if_neg e,if_neg e]
set_option maxRecDepth 100000 in
set_option maxHeartbeats 8000000 in
theorem tnabove (NA LA:Option Addr) (n nc m lc:Nat) (D:Nds) (K:Lks) (s:ByteArray) (hz:NetSz D n K m) (w:World) (hD:NdIn w NA n D) (hK:LkIn w LA m K):
 Calls Tryz.prog 23 #[.agg #[.slice NA n nc,.slice LA m lc],.string s] w (WysPost D n K m (eY D n K) (eX D n K) s w):=by
 have hal:Below w.heap.size w (w.alloc (Obj.cells #[.slice NA n nc,.slice LA m lc] 25)):=(bR _ w).alloc (nl _) _
 have HAL:=LH hal
 have HB0:Hid (Blk (w.alloc (Obj.cells #[.slice NA n nc,.slice LA m lc] 25)) w.heap.size 25 #[.slice NA n nc,.slice LA m lc]):=Blk.new _ _ _
 have SV:=LH (nvalid NA LA n nc m lc D K hz _ (hD.below (nl _) hal) (hK.below (nl _) hal))
 have SE:Hid (∀w',Below w.heap.size w w'→Calls Tryz.prog 56 #[.agg #[.slice NA n nc,.slice LA m lc]] w' (EdPost m (eX D n K) (eY D n K) w')):=fun w' hb=>nedges NA LA n nc m lc D K w' hz.n2 hz.m2 (hD.below (nl _) hb) (hK.below (nl _) hb)
 have HM2:Hid (m≤2000):=hz.m2
 by_cases hv:netP D n K m
 ·rw [zA2 hv] at SV
  have HV:=LH hv
  have SO:Hid (∀w' A c,Below w.heap.size w w'→TabIn w' A m (eY D n K) (eX D n K)→Calls Tryz.prog 61 #[.agg #[.slice NA n nc,.slice LA m lc],.string s,.slice A m c] w' (WayPost D n (eY D n K) (eX D n K) m (fnd D.Nm n s) w')):=fun w' A c hb ht=>nways NA LA A n nc m lc m c D _ _ s w' hv.1 (by have:=hv.2.1;omega) ⟨(netP_ed hv).y,(netP_ed hv).x⟩ (hD.below (nl _) hb) ht
  clear hv hz hD hK hal
  go_enter Tryz.func23,Tryz.ntmps23
  go_upto_region 4 with (first
   |(go_at_call 36
     with_reducible refine SV.out.mono ?_
     rintro e w1 ⟨rfl,hb1⟩
     have HB1:=LH (zA1 HAL.out hb1)
     have HBB:=LH (HB0.out.call hb1)
     obtain ⟨y0,y1⟩:=blk2 (HB0.out.call hb1)
     clear hb1)
   |(go_at_call 56
     with_reducible refine (SE.out _ HB1.out).mono ?_
     rintro e w2 ⟨u,rfl,ho⟩
     have HO:=LH ho
     obtain ⟨A2,c2,rfl,ht2⟩:=ho.tab HM2.out
     obtain ⟨g,off,hg1,hg2⟩:=ho.blk' rfl
     have HI:Hid (AbvI w w2 NA LA A2 n nc m lc (eX D n K) (eY D n K) 0):=⟨ht2.congr fun i hi=>⟨by unfold swp;rw [if_neg (by omega)],by unfold swp;rw [if_neg (by omega)]⟩,HBB.out.call ho.2,zA1 HB1.out ho.2,fun hm=>by
      obtain ⟨a,b⟩:=hg1 hm
      obtain ⟨cs,hcs⟩:=hg2 hm
      exact ⟨g,off,cs,a,by have:=HBB.out.lt;omega,hcs⟩⟩
     clear ho ht2 hg1 hg2))
  clear SV SE HAL HB0 HB1 HBB HO y0 y1
  go_wp2_with fail
  go_loopw [16] (fun x wr=>∃(k:Nat),x= .int .i64 k∧Hid (k≤m)∧Hid (AbvI w wr NA LA A2 n nc m lc (eX D n K) (eY D n K) k)) (fun x _=>m - (RowKit.intOf x).toNat)
  case atStart=>exact ⟨0,rfl,Nat.zero_le _,HI⟩
  case round=>
   clear HI
   obtain ⟨k,rfl,Hk,HI⟩:=hrel
   by_cases hlt:k<m
   ·have T0:decide ((k:Int)<(m:Int))=true:=by simp<;> omega
    have T0':decide (k<m)=true:=dT hlt
    obtain ⟨k',hk'⟩:∃z,z=k+1:=⟨_,rfl⟩
    have x0:IntKind.i64.wrap ((k:Int)+1)=(k':Int):=by have:=HM2.out;rw [IntKind.wrap_i64];omega
    have HK':Hid (k'≤m∧k'=k+1):=⟨by omega,hk'⟩
    have HMS:Hid (m - (RowKit.intOf (Value.int .i64 (k':Int))).toNat<m - (RowKit.intOf (Value.int .i64 (k:Int))).toNat):=by show _<_;simp [RowKit.intOf];omega
    have k0:(0:Int)≤(k:Int):=by omega
    have k1:(k:Int)<(m:Int):=by omega
    have HLT:=LH hlt
    obtain ⟨g,off,cs,hA,hg,hb⟩:=HI.out.at_ (by omega)
    subst hA
    have hti:wr.cell? ⟨g,off+k*2,none⟩=some (.int .i64 (eX D n K k))∧wr.cell? ⟨g,off+k*2+1,none⟩=some (.int .i64 (eY D n K k)):=by
     rcases HI.out.tab.2 with h0 |⟨b,o,e,ht⟩
     ·omega
     cases e
     have:=ht.2 k hlt
     unfold swp at this
     rwa [if_neg (Nat.lt_irrefl k),if_neg (Nat.lt_irrefl k)] at this
    obtain ⟨c0,c1⟩:=hti
    obtain ⟨x,hx⟩:∃x,eX D n K k=x:=⟨_,rfl⟩
    obtain ⟨y,hy⟩:∃y,eY D n K k=y:=⟨_,rfl⟩
    rw [hx] at c0
    rw [hy] at c1
    have HXY:Hid (eX D n K k=x∧eY D n K k=y):=⟨hx,hy⟩
    clear hk' hx hy hg hb hlt
    go_upto_region 7 with fail
    have hal:Below wr.heap.size wr (wr.alloc (Obj.cells #[.int .i64 x,.int .i64 y] 38)):=(bR _ wr).alloc (nl _) _
    have HBG:Hid (Blk (wr.alloc (Obj.cells #[.int .i64 x,.int .i64 y] 38)) wr.heap.size 38 #[.int .i64 x,.int .i64 y]):=Blk.new _ _ _
    have HI4:=LH (HI.out.call hal)
    clear hal c0 c1 HI
    generalize wr.alloc (Obj.cells _ 38)=w4 at HBG HI4⊢
    generalize wr.heap.size=G at HBG⊢
    obtain ⟨g0,off0,cs,e,hg,hb⟩:=HI4.out.at_ (by have:=HLT.out;omega)
    cases e
    obtain ⟨s0,s1⟩:=blk2 HBG.out
    have hti:w4.cell? ⟨g,off+k*2,none⟩=some (.int .i64 (eX D n K k))∧w4.cell? ⟨g,off+k*2+1,none⟩=some (.int .i64 (eY D n K k)):=by
     rcases HI4.out.tab.2 with h0 |⟨b,o,e,ht⟩
     ·have:=HLT.out;omega
     cases e
     have:=ht.2 k HLT.out
     unfold swp at this
     rwa [if_neg (Nat.lt_irrefl k),if_neg (Nat.lt_irrefl k)] at this
    obtain ⟨c0,c1⟩:=hti
    rw [HXY.out.1] at c0
    rw [HXY.out.2] at c1
    have f0:=hb.frozen (off+k*2)
    have f1:=hb.frozen (off+k*2+1)
    clear hb hg
    go_wp2_with fail
    go_roundw
    case rel=>
     refine ⟨k',rfl,HK'.out.1,?_⟩
     have:=HI4.out.turn HLT.out
     rw [HXY.out.1,HXY.out.2,←HK'.out.2] at this
     exact this
    case measure=>exact HMS.out
   ·have e:k=m:=by have:=Hk.out;omega
    have T0:decide ((k:Int)<(m:Int))=false:=by simp<;> omega
    have T0':decide (k<m)=false:=dF hlt
    have HT:Hid (TabIn wr A2 m (eY D n K) (eX D n K)):=HI.out.tab.congr fun i hi=>⟨by unfold swp;rw [if_pos (by omega)],by unfold swp;rw [if_pos (by omega)]⟩
    have HBL:=LH HI.out.bl
    obtain ⟨y0,y1⟩:=blk2 HI.out.net
    clear hlt e
    go_wp2_with (first
     |(go_at_call 61
       with_reducible refine (SO.out _ _ _ HBL.out HT.out).mono ?_
       intro e w3 ho3
       obtain ⟨A3,N3,c3,z3,rfl⟩:=ho3.shape
       have HO3:=LH ho3
       clear ho3))
    go_ret2
    exact .inr ⟨HV.out,HO3.out.lift HBL.out⟩
 ·rw [zA0 hv] at SV
  have HV:=LH hv
  clear hv SE hz hD hK hal
  go_enter Tryz.func23,Tryz.ntmps23
  go_wp2_with (first
   |(go_at_call 36
     with_reducible refine SV.out.mono ?_
     rintro e w1 ⟨rfl,hb1⟩
     have HB1:=LH (zA1 HAL.out hb1)
     clear hb1))
  go_ret2
  exact .inl ⟨HV.out,rfl,HB1.out⟩
end Go.Proofs.YtghefgifhebniaaGreatDoor

/- Merged texts of these proofs: SortI, DgN. -/
import Derived.Sort.OwnSortedInts
import Derived.Lib.RowBridge
import Derived.Test.YtchakniaoeodmaaGreatDoorEdg
import Derived.Laws.OwnMore
namespace Go.Proofs.YtchakniaoeodmaaGreatDoor
open Go.RowKit Go.Sort
set_option linter.unusedVariables false
set_option linter.unusedSimpArgs false
def ic (L:List Int):List Value:=L.map (Value.int .i64)
def XMem (w0 w:World) (g cap:Nat) (zs:List Int):Prop:=w.ownsRow w0.heap.size 3 1 (.slice (some ⟨g,0,none⟩) zs.length cap) zs.length (ic zs)∧Below w0.heap.size w0 w
theorem XMem.parts {w0 w:World} {g cap:Nat} {zs:List Int} (h:XMem w0 w g cap zs):∃cur,w0.heap.size≤g∧w.heap[g]?=some (.cells cur 3 (0,0))∧zs.length≤cap∧cap≤maxLen∧cur.size=cap*1∧cur.toList.take zs.length=ic zs:=by
 rcases h.1.2 with ⟨h0,_⟩|⟨g',cap',cur,hv,hg,hb,hn,hc,hs,ht⟩
 ·cases h0
 ·cases hv
  exact ⟨cur,hg,hb,hn,hc,hs,by rw [Nat.mul_one] at ht;exact ht⟩
theorem XMem.holds {w0 w:World} {g cap:Nat} {zs:List Int} (h:XMem w0 w g cap zs):Holds (Value.int .i64) w g 0 zs.toArray:=by
 obtain ⟨cur,hg,hb,hn,hc,hs,ht⟩:=h.parts
 exact holds_of_blockI hb ht
structure NRow (B:Nat) (w:World) (ob n:Nat) (V:Nat→Value) (R:Nat→List Int):Prop where
 blk:Blk w ob 74 ((List.range n).map V).toArray
 lt:ob<B
 row:∀i,i<n→w.ownsRow B 3 1 (V i) (R i).length (ic (R i))
 apart:∀i j g,i<n→j<n→(V i).ownBlock=some g→(V j).ownBlock=some g→i=j
theorem NRow.cell {B:Nat} {w:World} {ob n:Nat} {V:Nat→Value} {R:Nat→List Int} (h:NRow B w ob n V R) {i:Nat} (hi:i<n):w.cell? ⟨ob,i,none⟩=some (V i):=by
 rw [h.blk.cell i];simp [hi]
theorem NRow.call {B:Nat} {w w':World} {ob n:Nat} {V:Nat→Value} {R:Nat→List Int} (h:NRow B w ob n V R) (hb:Below w.heap.size w w'):NRow B w' ob n V R:=
 ⟨h.blk.call hb,h.lt,fun i hi=>zC0 (h.row i hi) hb,h.apart⟩
theorem upd_map (n:Nat) (V:Nat→Value) (x:Nat) (u:Value):((List.range n).map V).toArray.setIfInBounds x u=((List.range n).map fun i=>if i=x then u else V i).toArray:=by
 apply Array.ext
 ·simp
 ·intro i h1 h2
  by_cases h:x=i
  ·subst h;simp
  ·have h':¬i=x:=fun e=>h e.symm
   have hi:i<((List.range n).map V).toArray.size:=by simpa using h2
   rw [Array.getElem_setIfInBounds_ne hi h]
   simp [h']
theorem zG1 (w:World) (g i:Nat) (u:Value):w.grownBy (w.setCell ⟨g,i,none⟩ u) (some g):=by
 have k0:=(bR 0 w).setCell (p:=⟨g,i,none⟩) (Nat.zero_le _) u
 exact ⟨k0.os,k0.tape,k0.output,k0.size,fun k hk hne=>Below.heap_setCell w ⟨g,i,none⟩ u k (fun e=>hne (by rw [e]))⟩
theorem NRow.turn {B H:Nat} {w w8:World} {ob n x k:Nat} {V:Nat→Value} {R:Nat→List Int} {v':Value} {L:List Int} (h:NRow B w ob n V R) (hx:x<n) (hH:w.heap.size≤H) (hg:w.grownBy w8 (V x).ownBlock) (ho:w8.ownsRow B 3 1 v' k (ic L)) (hk:k=L.length) (hat:v'.ownBlock=(V x).ownBlock∨v'.ownBlock=some H):
 NRow B (w8.setCell ⟨ob,x,none⟩ v') ob n (fun i=>if i=x then v' else V i) (fun i=>if i=x then L else R i):=by
 subst hk
 have hlo:∀i g,i<n→(V i).ownBlock=some g→B≤g∧g<w.heap.size:=fun i g hi e=>(h.row i hi).lt g e
 have hrow:∀i,i<n→i≠x→w8.ownsRow B 3 1 (V i) (R i).length (ic (R i)):=fun i hi hne=>(h.row i hi).kept hg (by
  cases e:(V i).ownBlock with
  |none=>exact .inl rfl
  |some g=>exact .inr fun e2=>hne (h.apart i x g hi hx e e2.symm))
 have hset:∀(u:Value) (m:Nat) (xs:List Value),w8.ownsRow B 3 1 u m xs→(w8.setCell ⟨ob,x,none⟩ v').ownsRow B 3 1 u m xs:=fun u m xs hu=>hu.kept (zG1 w8 ob x v') (by
  cases e:u.ownBlock with
  |none=>exact .inl rfl
  |some g=>
   refine .inr fun e2=>?_
   have:=(hu.lt g e).1
   have h3:g=ob:=by simpa using e2
   have:=h.lt
   omega)
 have hb8:Blk w8 ob 74 ((List.range n).map V).toArray:=h.blk.grown hg fun e=>by
  have:=(hlo x ob hx e.symm).1
  have:=h.lt;omega
 refine ⟨?_,h.lt,fun i hi=>?_,fun i j g hi hj ei ej=>?_⟩
 ·have:=hb8.set_ x v'
  rwa [upd_map] at this
 ·by_cases e:i=x
  ·subst e;simp only [if_pos];exact hset _ _ _ ho
  ·simp only [if_neg e];exact hset _ _ _ (hrow i hi e)
 ·by_cases e:i=x
  ·by_cases e2:j=x
   ·rw [e,e2]
   ·exfalso
    simp only [if_pos e,if_neg e2] at ei ej
    have:=hlo j g hj ej
    rcases hat with h5 |h5
    ·exact e2 (h.apart j x g hj hx ej (by rw [←h5];exact ei))
    ·rw [h5] at ei;have:=Option.some.inj ei;omega
  ·by_cases e2:j=x
   ·exfalso
    simp only [if_neg e,if_pos e2] at ei ej
    have:=hlo i g hi ei
    rcases hat with h5 |h5
    ·exact e (h.apart i x g hi hx ei (by rw [←h5];exact ej))
    ·rw [h5] at ej;have:=Option.some.inj ej;omega
   ·simp only [if_neg e,if_neg e2] at ei ej
    exact h.apart i j g hi hj ei ej
theorem NRow.congr {B:Nat} {w:World} {ob n:Nat} {V:Nat→Value} {R R':Nat→List Int} (h:NRow B w ob n V R) (he:∀i,i<n→R i=R' i):NRow B w ob n V R':=
 ⟨h.blk,h.lt,fun i hi=>by rw [←he i hi];exact h.row i hi,h.apart⟩
theorem zA9 {B:Nat} {w0 w w8:World} {row:Option Nat} (h:Below B w0 w) (hB:B≤w.heap.size) (hg:w.grownBy w8 row) (hr:∀g,row=some g→B≤g):Below B w0 w8:=
 ⟨hg.os.trans h.os,hg.tape.trans h.tape,hg.output.trans h.output,nT h.size hg.size,fun k hk=>(hg.block k (by omega) (fun e=>by have:=hr k e.symm;omega)).trans (h.block k hk)⟩
theorem NRow.low {B:Nat} {w:World} {ob n:Nat} {V:Nat→Value} {R:Nat→List Int} (h:NRow B w ob n V R) {i g:Nat} (hi:i<n) (e:(V i).ownBlock=some g):B≤g:=((h.row i hi).lt g e).1
theorem zI9 {w:World} {B n:Nat} {e:TypeId} {size:Nat} {u:Value} {xs:List Value} (h:w.ownsRow B e size u n xs):∃A cap,u= .slice A n cap:=by
 rcases h.2 with ⟨hv,h0⟩|⟨g,cap,cur,hv,_⟩
 ·exact ⟨none,0,by rw [hv,h0]⟩
 ·exact ⟨_,cap,hv⟩
def AfIn (w:World) (b n:Nat) (R:Nat→List Int):Prop:=b<w.heap.size∧∀i,i<n→∃A c,w.cell? ⟨b,i,none⟩=some (.slice A (R i).length c)∧(R i).length≤c∧(R i=[]∨∃g,A=some ⟨g,0,none⟩∧g<w.heap.size∧∀k,k<(R i).length→w.cell? ⟨g,k,none⟩=some (.int .i64 ((R i).getD k 0)))
theorem AfIn.below {w w':World} {b n:Nat} {R:Nat→List Int} (h:AfIn w b n R) (hb:Below w.heap.size w w'):AfIn w' b n R:=by
 refine ⟨Nat.lt_of_lt_of_le h.1 hb.size,fun i hi=>?_⟩
 obtain ⟨A,c,h1,h2,h3⟩:=h.2 i hi
 refine ⟨A,c,(hb.cell (p:=⟨b,i,none⟩) h.1).trans h1,h2,?_⟩
 rcases h3 with h3 |⟨g,h3,h4,h5⟩
 ·exact .inl h3
 ·exact .inr ⟨g,h3,Nat.lt_of_lt_of_le h4 hb.size,fun k hk=>(hb.cell (p:=⟨g,k,none⟩) h4).trans (h5 k hk)⟩
theorem NRow.reads {B:Nat} {w:World} {ob n:Nat} {V:Nat→Value} {R:Nat→List Int} (h:NRow B w ob n V R):AfIn w ob n R:=by
 refine ⟨h.blk.lt,fun i hi=>?_⟩
 have hc:=h.cell hi
 have ho:=h.row i hi
 rcases ho.2 with ⟨hv,h0⟩|⟨g,cap,cur,hv,hg,hb,hnc,hcm,hs,ht⟩
 ·rw [hv] at hc
  exact ⟨none,0,by rw [hc,h0],by omega,.inl (List.eq_nil_of_length_eq_zero h0)⟩
 ·rw [hv] at hc ho
  refine ⟨_,cap,hc,hnc,?_⟩
  by_cases h0:R i=[]
  ·exact .inl h0
  ·refine .inr ⟨g,rfl,(ho.lt g rfl).2,fun k hk=>?_⟩
   rw [ho.cellAt k (by omega)]
   simp [ic,List.getD,hk]
end Go.Proofs.YtchakniaoeodmaaGreatDoor

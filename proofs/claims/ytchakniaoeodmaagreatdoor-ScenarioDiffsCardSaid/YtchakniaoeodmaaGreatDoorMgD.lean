/- Merged texts of these proofs: DgX, DgV, DgR, DgI, DgO, DgU, DgS, NWy. -/
import Derived.Test.YtchakniaoeodmaaGreatDoorMgN
import Derived.Shelf.Spec.SlicesInsertGrow
namespace Go.Proofs.YtchakniaoeodmaaGreatDoor
open Go.RowKit Go.Sort
set_option linter.unusedVariables false
set_option linter.unusedSimpArgs false
open Go.RowKit
def BlAt (w:World) (b n:Nat) (o:Nat→Bool):Prop:=b<w.heap.size∧∀v,v<n→w.cell? ⟨b,v,none⟩=some (.bool (o v))
theorem BlAt.below {w w':World} {b n:Nat} {o:Nat→Bool} (h:BlAt w b n o) (hb:Below w.heap.size w w'):BlAt w' b n o:=
 ⟨Nat.lt_of_lt_of_le h.1 hb.size,fun v hv=>(hb.cell (p:=⟨b,v,none⟩) h.1).trans (h.2 v hv)⟩
theorem RcI.drop {X Y:Nat→Int} {m:Nat} {S:Int→Prop} {o:Nat→Bool} {st:List Int} (h:RcI X Y m S o st):RcI X Y m S o st:=h
def QAt (B:Nat) (w:World) (g off c:Nat) (L:List Int):Prop:=B≤g∧L.length≤c∧∃cs,Blk w g 3 cs∧off+c≤cs.size∧0<cs.size∧cs.size≤maxLen∧∀j v,(ic L)[j]?=some v→cs[off+j]?=some v
theorem ic_get {L:List Int} {j:Nat} (h:j<L.length):(ic L)[j]?=some (.int .i64 (L.getD j 0)):=by simp [ic,List.getD,h]
theorem QAt.lt {B:Nat} {w:World} {g off c:Nat} {L:List Int} (h:QAt B w g off c L):g<w.heap.size:=by obtain ⟨_,_,cs,hb,_⟩:=h;exact hb.lt
theorem QAt.cell {B:Nat} {w:World} {g off c:Nat} {L:List Int} (h:QAt B w g off c L) {j:Nat} (hj:j<L.length):w.cell? ⟨g,off+j,none⟩=some (.int .i64 (L.getD j 0)):=by
 obtain ⟨_,_,cs,hb,_,_,_,hc⟩:=h
 rw [hb.cell];exact hc j _ (ic_get hj)
theorem QAt.grown {B:Nat} {w w':World} {g off c:Nat} {L:List Int} {row:Option Nat} (h:QAt B w g off c L) (hg:w.grownBy w' row) (hr:some g≠row):QAt B w' g off c L:=by
 obtain ⟨a,b,cs,hb,r⟩:=h
 exact ⟨a,b,cs,hb.grown hg hr,r⟩
theorem QAt.call {B:Nat} {w w':World} {g off c:Nat} {L:List Int} (h:QAt B w g off c L) (hb:Below w.heap.size w w'):QAt B w' g off c L:=by
 obtain ⟨a,b,cs,hk,r⟩:=h
 exact ⟨a,b,cs,hk.call hb,r⟩
theorem QAt.tail {B:Nat} {w:World} {g off c:Nat} {z:Int} {L:List Int} (h:QAt B w g off c (z::L)):(c=1→QAt B w g off 0 L)∧(c≠1→QAt B w g (off+1) (c - 1) L):=by
 obtain ⟨a,b,cs,hk,h1,h2,h3,h4⟩:=h
 simp only [List.length_cons] at b
 refine ⟨fun hc=>?_,fun hc=>?_⟩
 ·have hL:L=[]:=List.eq_nil_of_length_eq_zero (by omega)
  subst hL
  exact ⟨a,by simp,cs,hk,by omega,h2,h3,fun j v hj=>by simp [ic] at hj⟩
 ·refine ⟨a,by omega,cs,hk,by omega,h2,h3,fun j v hj=>?_⟩
  rw [Nat.add_assoc,Nat.add_comm 1 j]
  exact h4 (j+1) v (by simpa [ic] using hj)
theorem QAt.alloc {B:Nat} {w:World} {g off c:Nat} {L:List Int} (h:QAt B w g off c L) (o:Obj):QAt B (w.alloc o) g off c L:=h.call ((bR _ w).alloc (nl _) o)
def RdyIs (B:Nat) (wr:World) (u:Value) (R:List Int) (vo:Option Nat):Prop:=(R=[]∧∃A c,u= .slice A 0 c)∨∃g off c,u= .slice (some ⟨g,off,none⟩) R.length c∧QAt B wr g off c R∧vo≠some g
theorem RdyIs.nil {B:Nat} {wr:World} {u:Value} {vo:Option Nat} (h:RdyIs B wr u [] vo):∃A c,u= .slice A 0 c:=by
 rcases h with ⟨_,h⟩|⟨g,off,c,h,_⟩
 ·exact h
 ·exact ⟨_,_,h⟩
theorem zB7 {w:World} {B B' n size:Nat} {e:TypeId} {u:Value} {xs:List Value} (h:w.ownsRow B e size u n xs) (hB:B'≤B):w.ownsRow B' e size u n xs:=by
 refine ⟨h.1,?_⟩
 rcases h.2 with h1 |⟨g,cap,cur,hv,hg,r⟩
 ·exact .inl h1
 ·exact .inr ⟨g,cap,cur,hv,nT hB hg,r⟩
def nextP (X Y:Nat→Int) (m:Nat) (i:Int) (z:Int):Prop:=∃k,k<m∧X k=i∧Y k=z
def WayP (X Y:Nat→Int) (m:Nat) (i:Int) (z:Int):Prop:=Rch X Y m (nextP X Y m i) z
noncomputable def wayB (X Y:Nat→Int) (m:Nat) (i:Int) (v:Nat):Bool:=@decide (WayP X Y m i (v:Int)) (Classical.propDecidable _)
def nmL (D:Nds) (o:Nat→Bool) (j:Nat):List ByteArray:=((List.range j).filter o).map D.Nm
def WayPost (D:Nds) (n:Nat) (X Y:Nat→Int) (m:Nat) (i:Int) (w:World) (e:Ending) (w':World):Prop:=
 (i<0∧e= .returned (.tuple #[.slice none 0 0,.int .i64 9])∧Below w.heap.size w w')∨(0≤i∧∃u,e= .returned (.tuple #[u,.int .i64 0])∧RMem w w' u (nmL D (wayB X Y m i) n).length (nmL D (wayB X Y m i) n))
end Go.Proofs.YtchakniaoeodmaaGreatDoor

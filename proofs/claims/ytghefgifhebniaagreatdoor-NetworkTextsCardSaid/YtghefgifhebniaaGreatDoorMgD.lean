/- Merged texts of these proofs: DgI, DgO, DgU, DgS, NWy. -/
import Derived.Test.YtghefgifhebniaaGreatDoorMgX
import Derived.Shelf.Spec.SlicesInsertGrow
import Derived.Test.YtghefgifhebniaaGreatDoorMgQ
namespace Go.Proofs.YtghefgifhebniaaGreatDoor
open Go.RowKit Go.Sort
set_option linter.unusedVariables false
set_option linter.unusedSimpArgs false
def QAt (B:Nat) (w:World) (g off c:Nat) (L:List Int):Prop:=B≤g∧L.length≤c∧∃cs,Blk w g 3 cs∧off+c≤cs.size∧0<cs.size∧cs.size≤maxLen∧∀j v,(ic L)[j]?=some v→cs[off+j]?=some v
theorem ic_get {L:List Int} {j:Nat} (h:j<L.length):(ic L)[j]?=some (.int .i64 (L.getD j 0)):=by simp [ic,List.getD,h]
theorem QAt.lt {B:Nat} {w:World} {g off c:Nat} {L:List Int} (h:QAt B w g off c L):g<w.heap.size:=by obtain ⟨_,_,cs,hb,_⟩:=h;exact hb.lt
theorem QAt.cell {B:Nat} {w:World} {g off c:Nat} {L:List Int} (h:QAt B w g off c L) {j:Nat} (hj:j<L.length):w.cell? ⟨g,off+j,none⟩=some (.int .i64 (L.getD j 0)):=by
 obtain ⟨_,_,cs,hb,_,_,_,hc⟩:=h
 rw [hb.cell];exact hc j _ (ic_get hj)
theorem QAt.grown {B:Nat} {w w':World} {g off c:Nat} {L:List Int} {row:Option Nat} (h:QAt B w g off c L) (hg:w.grownBy w' row) (hr:some g≠row):QAt B w' g off c L:=by
 obtain ⟨a,b,cs,hb,r⟩:=h
 exact ⟨a,b,cs,hb.grown hg hr,r⟩
theorem QAt.call {B:Nat} {w w':World} {g off c:Nat} {L:List Int} (h:QAt B w g off c L) (hb:Below w.heap.size w w'):QAt B w' g off c L:=by
 obtain ⟨a,b,cs,hk,r⟩:=h
 exact ⟨a,b,cs,hk.call hb,r⟩
theorem QAt.tail {B:Nat} {w:World} {g off c:Nat} {z:Int} {L:List Int} (h:QAt B w g off c (z::L)):(c=1→QAt B w g off 0 L)∧(c≠1→QAt B w g (off+1) (c - 1) L):=by
 obtain ⟨a,b,cs,hk,h1,h2,h3,h4⟩:=h
 simp only [List.length_cons] at b
 refine ⟨fun hc=>?_,fun hc=>?_⟩
 ·have hL:L=[]:=List.eq_nil_of_length_eq_zero (by omega)
  subst hL
  exact ⟨a,by simp,cs,hk,by omega,h2,h3,fun j v hj=>by simp [ic] at hj⟩
 ·refine ⟨a,by omega,cs,hk,by omega,h2,h3,fun j v hj=>?_⟩
  rw [Nat.add_assoc,Nat.add_comm 1 j]
  exact h4 (j+1) v (by simpa [ic] using hj)
theorem blk_sets {g:Nat} {t:TypeId}:∀(vs:List Value) (w:World) (o:Nat) (cs:Array Value),Blk w g t cs→o+vs.length≤cs.size→∃cs',Blk (w.setCells g o vs) g t cs'∧cs'.size=cs.size∧(∀j v,vs[j]?=some v→cs'[o+j]?=some v)∧∀j,(j<o∨o+vs.length≤j)→cs'[j]?=cs[j]?:=by
 intro vs
 induction vs with
 |nil=>intro w o cs h _;exact ⟨cs,h,rfl,fun j v hj=>by simp at hj,fun _ _=>rfl⟩
 |cons v r ih=>
  intro w o cs h hl
  simp only [List.length_cons] at hl
  obtain ⟨cs',h1,h2,h3,h4⟩:=ih (w.setCell ⟨g,o,none⟩ v) (o+1) (cs.setIfInBounds o v) (h.set_ o v) (by simp;omega)
  refine ⟨cs',h1,by rw [h2];simp,fun j u hj=>?_,fun j hj=>?_⟩
  ·cases j with
   |zero=>
    simp only [List.getElem?_cons_zero,Option.some.injEq] at hj
    rw [Nat.add_zero,h4 o (.inl (by omega)),←hj]
    have ho:o<cs.size:=by omega
    simp [ho]
   |succ j=>
    rw [show o+(j+1)=o+1+j by omega]
    exact h3 j u (by simpa using hj)
  ·rw [h4 j (by simp only [List.length_cons] at hj;omega)]
   have hne:o≠j:=by simp only [List.length_cons] at hj;omega
   simp [hne]
theorem gr_sets (g:Nat):∀(vs:List Value) (w:World) (o:Nat),w.grownBy (w.setCells g o vs) (some g):=by
 intro vs
 induction vs with
 |nil=>intro w o;exact World.grownBy.refl w _
 |cons v r ih=>intro w o;exact (zB5 w g o v).trans (ih _ _)
theorem ic_ins (k:Int) (L:List Int):ic (ins k L)=(ic L).take (L.countP (·<k))++.int .i64 k::(ic L).drop (L.countP (·<k)):=by
 unfold ins ic
 rw [List.map_append,List.map_cons,List.map_take,List.map_drop]
theorem mid_get {α:Type} {A:List α} {x:α} {a:Nat} (ha:a≤A.length) {j:Nat} {v:α} (h:(A.take a++x::A.drop a)[j]?=some v):(j<a∧A[j]?=some v)∨(j=a∧v=x)∨(a<j∧(A.drop a)[j - (a+1)]?=some v):=by
 rcases Nat.lt_trichotomy j a with h1 |h1 |h1
 ·left
  rw [List.getElem?_append_left (by simp;omega),List.getElem?_take_of_lt h1] at h
  exact ⟨h1,h⟩
 ·subst h1
  rw [List.getElem?_append_right (by rw [List.length_take];omega)] at h
  rw [List.length_take,Nat.min_eq_left ha,Nat.sub_self,List.getElem?_cons_zero] at h
  exact .inr (.inl ⟨rfl,(Option.some.inj h).symm⟩)
 ·rw [List.getElem?_append_right (by rw [List.length_take];omega),List.length_take,Nat.min_eq_left ha,show j - a=(j - (a+1))+1 by omega,List.getElem?_cons_succ] at h
  exact .inr (.inr ⟨h1,h⟩)
def InsPost (B:Nat) (k:Int) (L:List Int) (g:Nat) (w:World) (e:Ending) (w':World):Prop:=
 ∃g' off' c',e= .returned (.slice (some ⟨g',off',none⟩) (L.length+1) c')∧QAt B w' g' off' c' (ins k L)∧w.grownBy w' (some g)∧(g'=g∨w.heap.size≤g')
theorem one_cells (L:List Int):∀v∈ic L,v.oneCell'=true:=ints_oneCell .i64 L
theorem zK0 (n:Nat):(Builtin.zeroCells (Value.int .i64 0).cells n).size=n:=by
 unfold Builtin.zeroCells
 simp [Value.cells]
theorem dinsert (B:Nat) (g off c vb:Nat) (k:Int) (L:List Int) (w:World) (h:QAt B w g off c L) (hB:B≤w.heap.size) (hL:L.length≤1000) (hv:Blk w vb 3 #[.int .i64 k]) (hne:vb≠g):
 Calls Tryz.prog 141 #[.slice (some ⟨g,off,none⟩) L.length c,.int .i64 (L.countP (·<k):Nat),.slice (some ⟨vb,0,none⟩) 1 1] w (InsPost B k L g w):=by
 obtain ⟨hg,hlc,cs,hb,hoc,hcs0,hcsm,hcell⟩:=h
 have hm:maxLen=9223372036854775807:=rfl
 have hca:L.countP (·<k)≤L.length:=List.countP_le_length
 obtain ⟨a,ha⟩:∃a,L.countP (·<k)=a:=⟨_,rfl⟩
 have hins:=ic_ins k L
 have hil:=ins_len k L
 rw [ha] at hins hca⊢
 have hvs:∀j v,[Value.int .i64 k][j]?=some v→w.cell? ⟨vb,0+j,none⟩=some v:=fun j v hj=>by
  rw [Nat.zero_add,hv.cell j]
  cases j with
  |zero=>simpa using hj
  |succ j=>simp at hj
 have h1v:∀v∈[Value.int .i64 k],v.oneCell'=true:=fun v hv=>by rw [List.mem_singleton.1 hv];rfl
 have hics:∀j v,(ic L)[j]?=some v→w.cell? ⟨g,off+j,none⟩=some v:=fun j v hj=>by rw [hb.cell];exact hcell j v hj
 have hsp:∀i,i<cs.size→(w.cell? ⟨g,i,none⟩).isSome=true:=fun i hi=>by rw [hb.cell];simp [hi]
 have hfz:∀i,w.frozen? ⟨g,i,none⟩=false:=fun i=>hb.frozen i
 by_cases hend:a=L.length
 ·have hin2:ic (ins k L)=ic L++[.int .i64 k]:=by
   rw [hins,hend,←zE8 L,List.take_length,List.drop_length]
  rw [hend]
  by_cases hroom:L.length+1≤c
  ·refine (Any2.slices_Insert_int_end_room Tryz.laysNm221 g off L.length c vb 0 1 1 [.int .i64 k] w (by omega) hroom (by omega) rfl (fun j hj=>hsp _ (by omega)) (fun j hj=>hfz _) hvs h1v).mono ?_
   rintro e w' ⟨rfl,rfl⟩
   obtain ⟨cs',b1,b2,b3,b4⟩:=blk_sets [Value.int .i64 k] w (off+L.length) cs hb (by simp;omega)
   refine ⟨g,off,c,rfl,⟨hg,by rw [hil];omega,cs',b1,by omega,by omega,by omega,fun j v hj=>?_⟩,gr_sets _ _ _ _,.inl rfl⟩
   rw [hin2] at hj
   rcases Nat.lt_or_ge j L.length with h1 |h1
   ·rw [List.getElem?_append_left (by rw [zE8];exact h1)] at hj
    rw [b4 _ (.inl (by omega))];exact hcell j v hj
   ·rw [List.getElem?_append_right (by rw [zE8];exact h1),zE8] at hj
    have:=b3 _ v hj
    rwa [show off+L.length+(j - L.length)=off+j by omega] at this
  ·refine (Any2.slices_Insert_int_end_grow Tryz.laysNm221 (some ⟨g,off,none⟩) L.length c vb 0 1 1 (ic L) [.int .i64 k] w (by omega) hlc (by omega) (by omega) (zE8 L) rfl (fun e=>by cases e) (fun ad e j v hj=>by
        cases e
        rw [Addr.add_lit];exact hics j v hj) hvs h1v).mono ?_
   rintro e w' ⟨rfl,rfl⟩
   have hge:=grownCap_ge w (L.length+1) c 3
   have hle:=grownCap_le_maxLen w (L.length+1) c 3 (by omega)
   have e3:(Tryz.laysNm221_ren.t 3)=3:=rfl
   simp only [e3]
   refine ⟨w.heap.size,0,_,rfl,⟨hB,by rw [hil];exact hge,_,heap_alloc_new w.drew _,?_,?_,?_,fun j v hj=>?_⟩,⟨rfl,rfl,rfl,by simp,fun i hi _=>heap_alloc_old w.drew _ hi⟩,.inr (nl _)⟩
   ·simp [zK0,zE8];omega
   ·simp [zK0,zE8];omega
   ·simp [zK0,zE8];omega
   ·rw [hin2] at hj
    rw [Nat.zero_add]
    have hjl:j<(ic L++[Value.int .i64 k]).length:=(List.getElem?_eq_some_iff.1 hj).1
    rw [Array.getElem?_append_left (by simpa using hjl)]
    simpa using hj
 ·have hlt:a<L.length:=by omega
  by_cases hroom:L.length+1≤c
  ·refine (Any2.slices_Insert_int_shift Tryz.laysNm221 g off L.length c a vb 0 1 1 (ic L) [.int .i64 k] w hlt (by omega) hroom (by omega) hne (zE8 L) rfl hics (fun j hj=>hsp _ (by omega)) (fun j hj=>hfz _) hvs (one_cells L) h1v 3 3 1 cs.size (by unfold World.shape?;rw [show w.heap[vb]?=_ from hv];rfl) (by unfold World.shape?;rw [show w.heap[g]?=_ from hb]) (by omega) (hv.frozen 0) (hv.frozen 1)).mono ?_
   rintro e w' ⟨rfl,rfl⟩
   have hdl:((ic L).drop a).length=L.length - a:=by rw [List.length_drop,zE8]
   obtain ⟨cs1,a1,a2,a3,a4⟩:=blk_sets ((ic L).drop a) w.drew (off+(a+1)) cs hb (by rw [hdl];omega)
   obtain ⟨cs',b1,b2,b3,b4⟩:=blk_sets [Value.int .i64 k] _ (off+a) cs1 a1 (by simp;omega)
   refine ⟨g,off,c,rfl,⟨hg,by rw [hil];omega,cs',b1,by omega,by omega,by omega,fun j v hj=>?_⟩,?_,.inl rfl⟩
   ·rw [hins] at hj
    rcases mid_get (by rw [zE8];omega) hj with ⟨h1,h2⟩|⟨h1,h2⟩|⟨h1,h2⟩
    ·rw [b4 _ (.inl (by omega)),a4 _ (.inl (by omega))];exact hcell j v h2
    ·subst h1 h2
     exact b3 0 _ rfl
    ·rw [b4 _ (.inr (by simp;omega))]
     have:=a3 _ v h2
     rwa [show off+(a+1)+(j - (a+1))=off+j by omega] at this
   ·have g1:w.grownBy w.drew (some g):=⟨rfl,rfl,rfl,nl _,fun _ _ _=>rfl⟩
    exact (g1.trans (gr_sets g _ w.drew _)).trans (gr_sets g _ _ _)
  ·refine (Any2.slices_Insert_int_grow Tryz.laysNm221 g off L.length c a vb 0 1 1 (ic L) [.int .i64 k] w hlt (by omega) hlc (by omega) (by omega) (zE8 L) rfl hics hvs (one_cells L) h1v).mono ?_
   rintro e w' ⟨rfl,rfl⟩
   have hge:=grownCap_ge w (L.length+1) c 3
   have hle:=grownCap_le_maxLen w (L.length+1) c 3 (by omega)
   have hdl:((ic L).drop a).length=L.length - a:=by rw [List.length_drop,zE8]
   obtain ⟨R0,hR0⟩:∃R0:Array Value,(((ic L).take a).toArray++Builtin.zeroCells (Value.int .i64 0).cells (L.length+1 - a)++Builtin.zeroCells (Value.int .i64 0).cells (grownCap w (L.length+1) c 3 - (L.length+1)))=R0:=⟨_,rfl⟩
   have hRs:R0.size=grownCap w (L.length+1) c 3:=by
        rw [←hR0]
        simp [zK0,zE8];omega
   have hRt:∀j v,j<a→(ic L)[j]?=some v→R0[j]?=some v:=fun j v hj hv=>by
        rw [←hR0,Array.append_assoc,Array.getElem?_append_left (by simp [zE8];omega)]
        simp only [List.getElem?_toArray]
        rw [List.getElem?_take_of_lt hj];exact hv
   have e3:(Tryz.laysNm221_ren.t 3)=3:=rfl
   simp only [e3]
   rw [hR0]
   have bn:Blk ((w.alloc (Obj.cells R0 3)).drew) w.heap.size 3 R0:=heap_alloc_new w _
   obtain ⟨cs1,a1,a2,a3,a4⟩:=blk_sets [Value.int .i64 k] _ a R0 bn (by simp;omega)
   obtain ⟨cs',b1,b2,b3,b4⟩:=blk_sets ((ic L).drop a) (World.drew ((w.alloc (Obj.cells R0 3)).drew.setCells w.heap.size a [Value.int .i64 k])) (a+1) cs1 a1 (by rw [hdl];omega)
   refine ⟨w.heap.size,0,_,rfl,⟨hB,by rw [hil];exact hge,cs',b1,by omega,by omega,by omega,fun j v hj=>?_⟩,?_,.inr (nl _)⟩
   ·rw [hins] at hj
    rw [Nat.zero_add]
    rcases mid_get (by rw [zE8];omega) hj with ⟨h1,h2⟩|⟨h1,h2⟩|⟨h1,h2⟩
    ·rw [b4 _ (.inl (by omega)),a4 _ (.inl (by omega))];exact hRt j v h1 h2
    ·subst h1 h2
     rw [b4 _ (.inl (by omega))]
     exact a3 0 _ rfl
    ·have:=b3 _ v h2
     rwa [show (a+1)+(j - (a+1))=j by omega] at this
   ·have g0:∀i,i<w.heap.size→(w.alloc (Obj.cells R0 3)).heap[i]?=w.heap[i]?:=fun i hi=>heap_alloc_old w _ hi
    have s1:=gr_sets w.heap.size [Value.int .i64 k] (w.alloc (Obj.cells R0 3)).drew a
    have s2:=gr_sets w.heap.size ((ic L).drop a) (World.drew ((w.alloc (Obj.cells R0 3)).drew.setCells w.heap.size a [Value.int .i64 k])) (a+1)
    refine ⟨s2.os.trans s1.os,s2.tape.trans s1.tape,s2.output.trans s1.output,?_,fun i hi _=>?_⟩
    ·have q1:=s1.size
     have q2:=s2.size
     simp only [World.size_alloc,heap_drew] at q1 q2
     omega
    ·have q1:=s1.size
     simp only [World.size_alloc,heap_drew] at q1
     exact (s2.block i (by simp only [heap_drew];omega) (fun e=>by have:=Option.some.inj e;omega)).trans ((s1.block i (by simp only [heap_drew,World.size_alloc];omega) (fun e=>by have:=Option.some.inj e;omega)).trans (g0 i hi))
theorem dsearch (B:Nat) (g off c:Nat) (k:Int) (L:List Int) (w:World) (h:QAt B w g off c L) (hL:L.length≤1000) (hs:L.Pairwise (·<·)):
 Calls Tryz.prog 140 #[.slice (some ⟨g,off,none⟩) L.length c,.int .i64 k] w fun e w'=>∃b,e= .returned (.tuple #[.int .i64 (L.countP (·<k):Nat),.bool b])∧Below w.heap.size w w':=by
 refine (Tryz.slices_BinarySearch_int g off L.length c L k w (nl _) (by omega) (fun j hj=>h.cell hj) (by rw [List.take_length];exact hs.imp (fun h=>Int.le_of_lt h))).mono ?_
 rintro e w' ⟨rfl,q,rfl⟩
 rw [List.take_length]
 exact ⟨_,rfl,zA7 (bR _ w) q⟩
theorem QAt.alloc {B:Nat} {w:World} {g off c:Nat} {L:List Int} (h:QAt B w g off c L) (o:Obj):QAt B (w.alloc o) g off c L:=h.call ((bR _ w).alloc (nl _) o)
def wcs (n:Nat) (W:Nat→Int):Array Value:=((List.range n).map fun v=>Value.int .i64 (W v)).toArray
theorem wcs_at {n v:Nat} {W:Nat→Int} (h:v<n):(wcs n W)[v]?=some (.int .i64 (W v)):=by simp [wcs,h]
def wset (W:Nat→Int) (k:Nat) (x:Int):Nat→Int:=fun v=>if v=k then x else W v
theorem wcs_set (n:Nat) (W:Nat→Int) (k:Nat) (x:Int):(wcs n W).setIfInBounds k (.int .i64 x)=wcs n (wset W k x):=by
 unfold wcs
 rw [upd_map n (fun v=>Value.int .i64 (W v)) k (.int .i64 x)]
 congr 1
 apply List.map_congr_left
 intro v _
 unfold wset
 by_cases e:v=k<;> simp [e]
theorem zL0 (W:Nat→Int) (k:Nat) (x:Int):wset W k x k=x:=by simp [wset]
theorem wset_other (W:Nat→Int) (k:Nat) (x:Int):∀j,j≠k→wset W k x j=W j:=fun j h=>by simp [wset,h]
def rdL (W:Nat→Int) (j:Nat):List Int:=((List.range j).filter fun v=>decide (W v=0)).map fun v:Nat=>(v:Int)
theorem rdL_succ (W:Nat→Int) (j:Nat):rdL W (j+1)=rdL W j++(if W j=0 then [(j:Int)] else []):=by
 unfold rdL
 rw [List.range_succ,List.filter_append,List.map_append]
 congr 1
 by_cases h:W j=0<;> simp [h]
theorem rdL_len (W:Nat→Int) (j:Nat):(rdL W j).length≤j:=by
 unfold rdL
 rw [List.length_map]
 exact nT (List.length_filter_le _ _) (by simp)
theorem mem_rdL {W:Nat→Int} {j:Nat} {z:Int}:z∈rdL W j↔∃v:Nat,v<j∧z=(v:Int)∧W v=0:=by
 unfold rdL
 simp only [List.mem_map,List.mem_filter,List.mem_range,decide_eq_true_eq]
 constructor
 ·rintro ⟨v,⟨h1,h2⟩,h3⟩;exact ⟨v,h1,h3.symm,h2⟩
 ·rintro ⟨v,h1,h2,h3⟩;exact ⟨v,⟨h1,h3⟩,h2.symm⟩
theorem rdL_sorted (W:Nat→Int) (j:Nat):(rdL W j).Pairwise (·<·):=by
 unfold rdL
 rw [List.pairwise_map]
 exact (List.pairwise_lt_range.filter _).imp (fun h=>by omega)
def RdyIs (B:Nat) (wr:World) (u:Value) (R:List Int) (vo:Option Nat):Prop:=(R=[]∧∃A c,u= .slice A 0 c)∨∃g off c,u= .slice (some ⟨g,off,none⟩) R.length c∧QAt B wr g off c R∧vo≠some g
theorem RdyIs.nil {B:Nat} {wr:World} {u:Value} {vo:Option Nat} (h:RdyIs B wr u [] vo):∃A c,u= .slice A 0 c:=by
 rcases h with ⟨_,h⟩|⟨g,off,c,h,_⟩
 ·exact h
 ·exact ⟨_,_,h⟩
theorem rdy_of_own {B:Nat} {w:World} {u:Value} {N:Nat} {R:List Int} (h:w.ownsRow B 3 1 u N (ic R)):RdyIs B w u R none:=by
 have hl:N=R.length:=by have:=h.1;rw [zE8] at this;omega
 subst hl
 by_cases h0:R=[]
 ·subst h0
  exact .inl ⟨rfl,zE5 h⟩
 ·have hpos:=List.length_pos_iff.2 h0
  rcases h.2 with ⟨hv,h1⟩|⟨g,cap,cur,hv,hg,hb,hnc,hcm,hs,ht⟩
  ·omega
  ·refine .inr ⟨g,0,cap,hv,⟨hg,hnc,cur,hb,by omega,by omega,by omega,fun j v hj=>?_⟩,by simp⟩
   rw [Nat.zero_add]
   rw [Nat.mul_one] at ht
   have hjl:j<R.length:=by have:=(List.getElem?_eq_some_iff.1 hj).1;rwa [zE8] at this
   rw [←ht,List.getElem?_take_of_lt hjl] at hj
   simpa using hj
def OrdPost (n:Nat) (X Y:Nat→Int) (m:Nat) (w:World) (e:Ending) (w':World):Prop:=
 ∃u,e= .returned u∧w'.ownsRow w.heap.size 3 1 u (ordO n X Y m).length (ic (ordO n X Y m))∧Below w.heap.size w w'
theorem nx_at {X Y:Nat→Int} {m j t:Nat} {z:Int} (h:(nx X Y m (j:Int))[t]?=some z):(nx X Y m (j:Int)).take (t+1)=(nx X Y m (j:Int)).take t++[z]∧z∉(nx X Y m (j:Int)).take t∧z∈nx X Y m (j:Int):=by
 have ht:=(List.getElem?_eq_some_iff.1 h).1
 refine ⟨by rw [List.take_add_one,h];rfl,fun hm=>?_,List.mem_of_getElem? h⟩
 obtain ⟨s,hs,e⟩:=List.mem_iff_getElem.1 hm
 rw [List.length_take] at hs
 rw [List.getElem_take] at e
 have e2:(nx X Y m (j:Int))[t]=z:=by have:=List.getElem?_eq_getElem ht;rw [this] at h;exact Option.some.inj h
 have:=List.pairwise_iff_getElem.1 (nx_sorted X Y m (j:Int)) s t (by omega) ht (by omega)
 omega
theorem zI8 {w:World} {B B' n size:Nat} {e:TypeId} {u:Value} {xs:List Value} (h:w.ownsRow B e size u n xs) (hB:B'≤B):w.ownsRow B' e size u n xs:=by
 refine ⟨h.1,?_⟩
 rcases h.2 with h1 |⟨g,cap,cur,hv,hg,r⟩
 ·exact .inl h1
 ·exact .inr ⟨g,cap,cur,hv,nT hB hg,r⟩
theorem af_row {w1 wr:World} {b n j:Nat} {R:Nat→List Int} (h:AfIn w1 b n R) (hj:j<n):∃A c,(∀wr,Below w1.heap.size w1 wr→wr.cell? ⟨b,j,none⟩=some (.slice A (R j).length c))∧∀t,t<(R j).length→∃g,A=some ⟨g,0,none⟩∧∀wr,Below w1.heap.size w1 wr→wr.cell? ⟨g,t,none⟩=some (.int .i64 ((R j).getD t 0)):=by
 obtain ⟨A,c,h1,h2,h3⟩:=h.2 j hj
 refine ⟨A,c,fun wr hb=>(hb.cell (p:=⟨b,j,none⟩) h.1).trans h1,fun t ht=>?_⟩
 rcases h3 with h3 |⟨g,h3,h4,h5⟩
 ·rw [h3] at ht;simp at ht
 ·exact ⟨g,h3,fun wr hb=>(hb.cell (p:=⟨g,t,none⟩) h4).trans (h5 t ht)⟩
set_option maxRecDepth 100000 in
set_option maxHeartbeats 8000000 in
theorem dorder (A:Option Addr) (n m c:Nat) (X Y:Nat→Int) (w:World) (hn:n≤300) (hm:m≤1000) (hE:EdOK n X Y m) (ht:TabIn w A m X Y):
 Calls Tryz.prog 97 #[.int .i64 n,.slice A m c] w (OrdPost n X Y m w):=by
 obtain ⟨i0,hi0,hz0,hz1,hz2⟩:=zA8 infoI
 have HI0:=LH hi0
 have HZ0:=LH hz0
 have HZ1:=LH hz1
 have HZ2:=LH hz2
 have HN:=LH hn
 have HM:=LH hm
 have HE:=LH hE
 have S1:=LH (dnext A n m c X Y w hn hm hE ht)
 have hmk:=mk_run 32 3 n 8 (.int .i64 0) infoI Tryz.underlying32 rfl (by omega) (by omega)
 obtain ⟨Z,hZ⟩:∃Z,((List.range n).map fun _=>Value.int .i64 0).toArray=Z:=⟨_,rfl⟩
 rw [hZ] at hmk
 have HZ:Hid (Z=wcs n fun _=>0):=hZ.symm
 clear hi0 hz0 hz1 hz2 hn hm hE ht hZ
 go_enter Tryz.func97,Tryz.ntmps97
 go_wp2_with (first
  |(go_at_call 92
    with_reducible refine S1.out.mono ?_
    rintro e w1 ⟨b,rfl,hbw,ha1,hb1⟩
    have HA:=LH ha1
    have HB1:=LH hb1
    clear hbw ha1 hb1))
 clear hmk S1
 have HWA:Hid (Blk (w1.alloc (Obj.cells Z 3)) w1.heap.size 3 (wcs n fun _=>0)):=by
  have:=Blk.new w1 3 Z
  rwa [HZ.out] at this⊢
 have HWB:Hid (Below w1.heap.size w1 (w1.alloc (Obj.cells Z 3))):=(bR _ w1).alloc (nl _) _
 clear HZ
 generalize w1.alloc (Obj.cells Z 3)=w2 at HWA HWB⊢
 go_loopw [27] (fun x wr=>∃(j:Nat) (W:Nat→Int),x= .int .i64 j∧Hid (j≤n)∧Hid (Blk wr w1.heap.size 3 (wcs n W))∧Hid (Below w1.heap.size w1 wr)∧Hid (∀k:Nat,k<n→W k=(wt X Y m j [] (k:Int):Int))) (fun x _=>n - (RowKit.intOf x).toNat)
 case atStart=>exact ⟨0,_,rfl,Nat.zero_le _,HWA,HWB,fun k _=>by rw [wt_zero];rfl⟩
 case round=>
  clear HWA HWB
  obtain ⟨j,W,rfl,Hj,HWA,HWB,HW⟩:=hrel
  by_cases hlt:j<n
  ·have T0:decide ((j:Int)<(n:Int))=true:=by simp<;> omega
   have T0':decide (j<n)=true:=dT hlt
   obtain ⟨j',hj'⟩:∃z,z=j+1:=⟨_,rfl⟩
   have x0:IntKind.i64.wrap ((j:Int)+1)=(j':Int):=by have:=HN.out;rw [IntKind.wrap_i64];omega
   have HJ':Hid (j'≤n∧j'=j+1):=⟨by omega,hj'⟩
   have HMS:Hid (n - (RowKit.intOf (Value.int .i64 (j':Int))).toNat<n - (RowKit.intOf (Value.int .i64 (j:Int))).toNat):=by show _<_;simp [RowKit.intOf];omega
   have k0:(0:Int)≤(j:Int):=by omega
   have k1:(j:Int)<(n:Int):=by omega
   obtain ⟨Aj,cj,hrow,hels⟩:=af_row (wr:=wr) HA.out hlt
   try dsimp only at hrow hels
   obtain ⟨K,hK⟩:∃K,(nx X Y m (j:Int)).length=K:=⟨_,rfl⟩
   have HK:=LH hK
   have HKM:Hid (K≤1000):=by show K≤1000;have:=nx_len X Y m (j:Int);have:=HM.out;omega
   rw [hK] at hrow hels
   have c0:=hrow wr HWB.out
   have HELS:=LH hels
   clear hj' hrow hels hK
   go_wp2_with fail
   go_loopw [33] (fun x wr=>∃(t:Nat) (W:Nat→Int),x= .int .i64 t∧Hid (t≤K)∧Hid (Blk wr w1.heap.size 3 (wcs n W))∧Hid (Below w1.heap.size w1 wr)∧Hid (∀k:Nat,k<n→W k=(wt X Y m j [] (k:Int):Int)+(if (k:Int)∈(nx X Y m (j:Int)).take t then 1 else 0))) (fun x _=>K - (RowKit.intOf x).toNat)
   case atStart=>exact ⟨0,W,rfl,Nat.zero_le _,HWA,HWB,fun k hk=>by rw [HW.out k hk];simp⟩
   case round=>
        clear HWA HWB HW c0
        obtain ⟨t,W,rfl,Ht,HWA,HWB,HW⟩:=hrel
        by_cases htl:t<K
        ·have T1:decide ((t:Int)<(K:Int))=true:=by simp<;> omega
         have T1':decide (t<K)=true:=dT htl
         obtain ⟨t',ht'⟩:∃z,z=t+1:=⟨_,rfl⟩
         have x1:IntKind.i64.wrap ((t:Int)+1)=(t':Int):=by have:=HKM.out;rw [IntKind.wrap_i64];omega
         have HT':Hid (t'≤K∧t'=t+1):=⟨by omega,ht'⟩
         have HMS2:Hid (K - (RowKit.intOf (Value.int .i64 (t':Int))).toNat<K - (RowKit.intOf (Value.int .i64 (t:Int))).toNat):=by show _<_;simp [RowKit.intOf];omega
         have k2:(0:Int)≤(t:Int):=by omega
         have k3:(t:Int)<(K:Int):=by omega
         obtain ⟨gj,hAj,hcell⟩:=HELS.out t htl
         have hz:(nx X Y m (j:Int))[t]?=some ((nx X Y m (j:Int)).getD t 0):=by
          have:t<(nx X Y m (j:Int)).length:=by rw [HK.out];exact htl
          simp [List.getD,this]
         have hzz:=nx_at hz
         obtain ⟨ke,hke,hxk,hyk⟩:=zK8.1 hzz.2.2
         have hbd:=HE.out.y ke hke
         obtain ⟨z,hz1⟩:∃z,(nx X Y m (j:Int)).getD t 0=z:=⟨_,rfl⟩
         rw [hz1] at hcell hzz hyk
         obtain ⟨kk,hkk⟩:∃kk:Nat,z=(kk:Int):=⟨z.toNat,by omega⟩
         subst hkk
         have hkn:kk<n:=by omega
         have ce:=hcell wr HWB.out
         have HZZ:=LH hzz
         subst hAj
         have k4:(0:Int)≤(kk:Int):=by omega
         have k5:(kk:Int)<(n:Int):=by omega
         have cw:=HWA.out.cell kk
         have fw:=HWA.out.frozen kk
         rw [wcs_at hkn] at cw
         have hwk:=HW.out kk hkn
         have hwl:=wt_le X Y m j [] (kk:Int)
         obtain ⟨wv,hwv⟩:∃wv,W kk=wv:=⟨_,rfl⟩
         rw [hwv] at cw
         obtain ⟨wv',hwv'⟩:∃z,z=wv+1:=⟨_,rfl⟩
         have x2:IntKind.i64.wrap (wv+1)=wv':=by
          rw [hwv',IntKind.wrap_i64]
          rw [hwv,if_neg hzz.2.1] at hwk
          have:=HN.out;omega
         have HWV:Hid (W kk=wv∧wv'=wv+1):=⟨hwv,hwv'⟩
         clear ht' hz hzz hke hxk hyk hbd hz1 hcell hkn hwk hwl hwv hwv' htl
         go_wp2_with fail
         go_roundw
         case rel=>
          refine ⟨t',wset W kk wv',rfl,HT'.out.1,by have:=HWA.out.set_ kk (.int .i64 wv');rwa [wcs_set] at this,HWB.out.setCell (p:=⟨w1.heap.size,kk,none⟩) (nl _) _,fun k hk=>?_⟩
          rw [HT'.out.2,HZZ.out.1]
          by_cases e:k=kk
          ·subst e
           have h1:=HW.out k hk
           rw [HWV.out.1,if_neg HZZ.out.2.1] at h1
           rw [zL0,HWV.out.2,if_pos (by simp)]
           omega
          ·rw [wset_other _ _ _ _ e,HW.out k hk]
           have:((k:Int)∈(nx X Y m (j:Int)).take t++[(kk:Int)])↔(k:Int)∈(nx X Y m (j:Int)).take t:=by
                rw [List.mem_append,List.mem_singleton]
                constructor
                ·rintro (h |h)
                 ·exact h
                 ·omega
                ·exact .inl
           simp only [this]
         case measure=>exact HMS2.out
        ·have e:t=K:=by have:=Ht.out;omega
         have T1:decide ((t:Int)<(K:Int))=false:=by simp<;> omega
         have T1':decide (t<K)=false:=dF htl
         have HTE:=LH e
         clear htl e
         go_wp2_with fail
         go_roundw
         case rel=>
          refine ⟨j',W,rfl,HJ'.out.1,HWA,HWB,fun k hk=>?_⟩
          rw [HW.out k hk,HTE.out,HJ'.out.2,wt_succ,←HK.out,List.take_length]
          by_cases e:(k:Int)∈nx X Y m (j:Int)<;> simp [e]
         case measure=>exact HMS.out
  ·have e:j=n:=by have:=Hj.out;omega
   have T0:decide ((j:Int)<(n:Int))=false:=by simp<;> omega
   have T0':decide (j<n)=false:=dF hlt
   subst e
   clear hlt Hj
   go_wp2_with fail
   obtain ⟨w0,hw0⟩:∃w0:World,w0=wr:=⟨_,rfl⟩
   go_loopw [11,47] (fun u x wr=>∃i:Nat,x= .int .i64 i∧Hid (i≤j)∧Hid (wr.ownsRow (w1.heap.size+1) 3 1 u (rdL W i).length (ic (rdL W i)))∧Hid (Blk wr w1.heap.size 3 (wcs j W))∧Hid (Below w1.heap.size w1 wr)) (fun _ x _=>j - (RowKit.intOf x).toNat)
   case atStart=>exact ⟨0,rfl,Nat.zero_le _,World.ownsRow_nil _ _ _ _,HWA,HWB⟩
   case round=>
        clear HWA HWB hw0
        obtain ⟨i,rfl,Hi,HO,HWA,HWB⟩:=hrel
        obtain ⟨A0,cap0,h8⟩:=zE5 HO.out
        subst h8
        by_cases hlt:i<j
        ·have T0:decide ((i:Int)<(j:Int))=true:=by simp<;> omega
         have T0':decide (i<j)=true:=dT hlt
         obtain ⟨i',hi'⟩:∃z,z=i+1:=⟨_,rfl⟩
         have x0:IntKind.i64.wrap ((i:Int)+1)=(i':Int):=by have:=HN.out;rw [IntKind.wrap_i64];omega
         have HI':Hid (i'≤j∧i'=i+1):=⟨by omega,hi'⟩
         have HMS:Hid (j - (RowKit.intOf (Value.int .i64 (i':Int))).toNat<j - (RowKit.intOf (Value.int .i64 (i:Int))).toNat):=by show _<_;simp [RowKit.intOf];omega
         have k0:(0:Int)≤(i:Int):=by omega
         have k1:(i:Int)<(j:Int):=by omega
         have cw:=HWA.out.cell i
         rw [wcs_at hlt] at cw
         obtain ⟨wv,hwv⟩:∃wv,W i=wv:=⟨_,rfl⟩
         rw [hwv] at cw
         have HL2:Hid ((rdL W i).length≤2000):=by show _≤_;have:=rdL_len W i;have:=HN.out;omega
         have HRS:=LH (rdL_succ W i)
         have HWV:=LH hwv
         obtain ⟨N,hN⟩:∃N,(rdL W i).length=N:=⟨_,rfl⟩
         rw [hN] at HO HL2
         have HNN:=LH hN
         rw [hN]
         have HBB:Hid (w1.heap.size+1≤wr.heap.size):=HWA.out.lt
         clear hi' hwv hN hlt
         by_cases h0:wv=0
         ·subst h0
          go_wp2_with (first
           |(at_builtin;refine wpList_append_own_at _ ?q1_1 (.tmp 54) (.tmp 56) 32 ?q1_2 (w1.heap.size+1) 3 i0 (.int .i64 0) 1 8 Tryz.underlying32 HI0.out HZ0.out HZ1.out HZ2.out ?q1_3 ?q1_4 (.slice A0 N cap0) N (ic (rdL W i)) ?q1_5 (HO.out.alloc _) ⟨wr.heap.size,0,none⟩ 1 1 [.int .i64 (i:Int)] ?q1_7 (rfl) (World.news_of_block (cs:=#[.int .i64 (i:Int)]) (t:=3) (fr:=(0,0)) (heap_alloc_new _ _)) (by simp [Value.oneCell']) (h63_n HL2.out) (hby_n HL2.out) (zA9 HBB.out _) ?q1_14
             case q1_1=>exact rfl
             case q1_2=>exact rfl
             case q1_3=>exact rfl
             case q1_4=>decide
             case q1_5=>exact rfl
             case q1_7=>exact rfl
             intro u2 w7 hown2 hgrow2 hnil2 hat2
             have HO7:=LH hown2
             have HG7:=LH hgrow2
             clear hown2 hgrow2 hnil2 hat2))
          go_roundw
          case rel=>
           refine ⟨i',rfl,HI'.out.1,?_,?_,?_⟩
           ·rw [HI'.out.2,HRS.out,if_pos HWV.out,zH7,List.length_append,HNN.out]
            exact HO7.out
           ·exact (HWA.out.alloc _).grown HG7.out (fun e=>by
                have:=(HO.out.lt _ e.symm).1;omega)
           ·exact zB9 (HWB.out.alloc HWB.out.size _) (by have:=HWB.out.size;simp;omega) HG7.out (fun g' e=>by have:=(HO.out.lt g' e).1;omega)
          case measure=>exact HMS.out
         ·have t0:(wv==0)=false:=by simpa using h0
          have t1:decide (wv=0)=false:=dF h0
          have HH0:=LH h0
          clear h0
          go_wp2_with fail
          go_roundw
          case rel=>
           refine ⟨i',rfl,HI'.out.1,?_,HWA,HWB⟩
           rw [HI'.out.2,HRS.out,if_neg (by rw [HWV.out];exact HH0.out),List.append_nil,HNN.out]
           exact HO.out
          case measure=>exact HMS.out
        ·have e:i=j:=by have:=Hi.out;omega
         have T0:decide ((i:Int)<(j:Int))=false:=by simp<;> omega
         have T0':decide (i<j)=false:=dF hlt
         subst e
         clear hlt Hi
         have HKI:=LH (KnI.start HE.out (rdL_sorted W i) (fun z=>mem_rdL) HW.out)
         have HRD:Hid (RdyIs (w1.heap.size+1) wr (.slice A0 (rdL W i).length cap0) (rdL W i) (Value.slice none 0 0).ownBlock):=rdy_of_own HO.out
         go_wp2_with fail
         obtain ⟨N0,hN0⟩:∃N0,(rdL W i).length=N0:=⟨_,rfl⟩
         rw [hN0] at HRD⊢
         clear HO hN0 HW
         obtain ⟨w0,hw0⟩:∃w0:World,w0=wr:=⟨_,rfl⟩
         go_loopg [11,12] i (fun gm u v wr=>∃(L R:List Int) (W:Nat→Int),Hid (RdyIs (w1.heap.size+1) wr u R v.ownBlock)∧Hid (wr.ownsRow (w1.heap.size+1) 3 1 v L.length (ic L))∧Hid (Blk wr w1.heap.size 3 (wcs i W))∧Hid (Below w1.heap.size w1 wr)∧Hid (KnI i X Y m L R W)∧Hid (i - L.length≤gm))
         case atStart=>exact ⟨[],rdL W i,W,HRD,World.ownsRow_nil _ _ _ _,HWA,HWB,HKI,Nat.sub_le _ _⟩
         case round=>
          clear HRD HWA HWB HKI hw0
          obtain ⟨L,R,W,HRD,HO,HWA,HWB,HK,HG⟩:=hrel
          obtain ⟨A1,cap1,h8⟩:=zE5 HO.out
          subst h8
          cases R with
          |nil=>
           obtain ⟨A2,c2,h9⟩:=HRD.out.nil
           subst h9
           have T0:decide ((0:Int)<((0:Nat):Int))=false:=by decide
           have HLO:=LH HK.out.empty
           obtain ⟨N,hN⟩:∃N,L.length=N:=⟨_,rfl⟩
           rw [hN] at HO⊢
           have HNN:=LH hN
           clear hN
           go_wp2_with fail
           go_ret
           refine ⟨_,rfl,?_,HB1.out.trans (HWB.out.mono HB1.out.size)⟩
           rw [←HLO.out,HNN.out]
           exact zI8 HO.out (by have:=HB1.out.size;omega)
          |cons z R0=>
           rcases HRD.out with ⟨hr,_⟩|⟨g,off,c,hu,hq,hsep⟩
           ·cases hr
           subst hu
           obtain ⟨q,hqn,hzq,hpk⟩:=HK.out.head
           subst hzq
           obtain ⟨hqL,_⟩:=HK.out.inn
           have HQ:=LH hq
           have HSEP:=LH hsep
           have HQN:Hid (q<i∧(q:Int)∉L):=⟨hqn,hqL⟩
           obtain ⟨N,hN⟩:∃N,((q:Int)::R0).length=N:=⟨_,rfl⟩
           obtain ⟨N0,hN0⟩:∃N0,R0.length=N0:=⟨_,rfl⟩
           have hNN:N=N0+1:=by rw [←hN,←hN0];rfl
           rw [hN]
           have c0:=hq.cell (j:=0) (by simp)
           rw [Nat.add_zero] at c0
           simp only [List.getD_cons_zero] at c0
           have hqc:N≤c:=by have:=hq.2.1;omega
           have HN0:=LH hN0
           have HLB:Hid ((L++[(q:Int)]).length≤i):=(HK.out.way.step hpk).1.len
           have T0:decide ((0:Int)<(N:Int))=true:=dT (by omega)
           have T0':decide (0<N)=true:=dT (by omega)
           have k0:(1:Int)≤(N:Int):=by omega
           have k0':(0:Int)<(N:Int):=by omega
           have k1:(N:Int)≤(c:Int):=by omega
           have k1':1≤N:=by omega
           have HNC:Hid (N=N0+1∧N≤c):=⟨hNN,hqc⟩
           clear hq hsep hqn hpk hqL hN hN0 hNN
           go_upto_region 21 with fail
           go_cut [11] from 65 to 66 (fun u wx=>∃o2 c2:Nat,u= .slice (some ⟨g,o2,none⟩) N0 c2∧wx=wr∧Hid (QAt (w1.heap.size+1) wr g o2 c2 R0))
           case first=>
                by_cases hc:c=1
                ·have h1:N=1:=by have:=HNC.out;omega
                 have h2:N0=0:=by have:=HNC.out;omega
                 subst hc h1 h2
                 go_wp2_with fail
                 go_meet
                 exact ⟨off,0,rfl,rfl,HQ.out.tail.1 rfl⟩
                ·have h3:N - 1=N0:=by have:=HNC.out;omega
                 go_wp2_with fail
                 go_meet
                 exact ⟨off+1,c - 1,rfl,rfl,HQ.out.tail.2 hc⟩
           case rest=>
           obtain ⟨o2,c2,rfl,rfl,HQ2⟩:=hcut
           clear HQ c0 k0 k0' k1 k1' hqc HNC T0 T0'
           have k2:(0:Int)≤(q:Int):=by omega
           have k3:(q:Int)<(i:Int):=by have:=HQN.out.1;omega
           have HL2:Hid (L.length≤2000):=by show _≤_;have:=HK.out.way.1.len;have:=HN.out;omega
           have HBB:Hid (w1.heap.size+1≤wc.heap.size):=HWA.out.lt
           obtain ⟨Ai,ci,hrow,hels⟩:=af_row (wr:=wc) HA.out HQN.out.1
           try dsimp only at hrow hels
           obtain ⟨K,hK⟩:∃K,(nx X Y m (q:Int)).length=K:=⟨_,rfl⟩
           have HKL:=LH hK
           have HKM:Hid (K≤1000):=by show K≤1000;have:=nx_len X Y m (q:Int);have:=HM.out;omega
           rw [hK] at hrow hels
           have HROW:=LH hrow
           have HELS:=LH hels
           clear hrow hels hK
           obtain ⟨NL,hNL⟩:∃NL,L.length=NL:=⟨_,rfl⟩
           rw [hNL] at HO HL2 HSEP⊢
           have HNL:=LH hNL
           clear hNL
           go_wp2_with (first
                |(at_builtin;refine wpList_append_own_at _ ?q2_1 (.tmp 67) (.tmp 69) 32 ?q2_2 (w1.heap.size+1) 3 i0 (.int .i64 0) 1 8 Tryz.underlying32 HI0.out HZ0.out HZ1.out HZ2.out ?q2_3 ?q2_4 (.slice A1 NL cap1) NL (ic L) ?q2_5 (HO.out.alloc _) ⟨wc.heap.size,0,none⟩ 1 1 [.int .i64 (q:Int)] ?q2_7 (rfl) (World.news_of_block (cs:=#[.int .i64 (q:Int)]) (t:=3) (fr:=(0,0)) (heap_alloc_new _ _)) (by simp [Value.oneCell']) (h63_n HL2.out) (hby_n HL2.out) (zA9 HBB.out _) ?q2_14
                  case q2_1=>exact rfl
                  case q2_2=>exact rfl
                  case q2_3=>exact rfl
                  case q2_4=>decide
                  case q2_5=>exact rfl
                  case q2_7=>exact rfl
                  intro u2 w7 hown2 hgrow2 hnil2 hat2
                  have HO7:=LH hown2
                  have HQ7:Hid (QAt (w1.heap.size+1) w7 g o2 c2 R0):=(HQ2.out.alloc _).grown hgrow2 (fun e=>HSEP.out e.symm)
                  have HSEP7:Hid (u2.ownBlock≠some g):=by
                   show _≠_
                   rcases hat2 with h |h
                   ·rw [h];exact HSEP.out
                   ·rw [h];intro e
                    have e2:=Option.some.inj e
                    have:=HQ2.out.lt
                    rw [World.size_alloc] at e2
                    omega
                  have HWA7:Hid (Blk w7 w1.heap.size 3 (wcs i W)):=(HWA.out.alloc _).grown hgrow2 (fun e=>by have:=(HO.out.lt _ e.symm).1;omega)
                  have HWB7:Hid (Below w1.heap.size w1 w7):=zB9 (HWB.out.alloc HWB.out.size _) (by have:=HWB.out.size;simp;omega) hgrow2 (fun g' e=>by have:=(HO.out.lt g' e).1;omega)
                  have c7:=HROW.out w7 HWB7.out
                  clear hown2 hgrow2 hnil2 hat2))
           have HO7':Hid (w7.ownsRow (w1.heap.size+1) 3 1 u2 (NL+1) (ic (L++[(q:Int)]))):=by show World.ownsRow _ _ _ _ _ _ _;rw [zH7];exact HO7.out
           have HKM0:Hid (KmI i X Y m L q R0 ((nx X Y m (q:Int)).take 0) R0 W):=HK.out.inner
           clear HO7 HO HWA HWB HRD HQ2 HSEP HROW
           go_loopw [11,76] (fun u x wr=>∃(t N:Nat) (R:List Int) (W:Nat→Int) (g off c:Nat),x= .int .i64 t∧u= .slice (some ⟨g,off,none⟩) N c∧Hid (t≤K∧N=R.length)∧Hid (QAt (w1.heap.size+1) wr g off c R)∧Hid (u2.ownBlock≠some g)∧Hid (wr.ownsRow (w1.heap.size+1) 3 1 u2 (NL+1) (ic (L++[(q:Int)])))∧Hid (Blk wr w1.heap.size 3 (wcs i W))∧Hid (Below w1.heap.size w1 wr)∧Hid (KmI i X Y m L q R0 ((nx X Y m (q:Int)).take t) R W)) (fun _ x _=>K - (RowKit.intOf x).toNat)
           case atStart=>exact ⟨0,N0,R0,W,g,o2,c2,rfl,rfl,⟨Nat.zero_le _,HN0.out.symm⟩,HQ7,HSEP7,HO7',HWA7,HWB7,HKM0⟩
           case round=>
                clear HQ7 HSEP7 HO7' HWA7 HWB7 HKM0 c7
                obtain ⟨t,N,R,W',g,off,c,rfl,rfl,HT,HQ,HSEP,HO,HWA,HWB,HKm⟩:=hrel
                have HRB:Hid (R.length≤1000):=by
                 show _≤_
                 have h1:=HKm.out.bd HE.out (n:=i) (fun z hz=>HK.out.bd z (List.mem_cons_of_mem _ hz)) (fun z hz=>List.mem_of_mem_take hz)
                 have:=sorted_len HKm.out.srt h1
                 have:=HN.out;omega
                by_cases htl:t<K
                ·have T1:decide ((t:Int)<(K:Int))=true:=by simp<;> omega
                 have T1':decide (t<K)=true:=dT htl
                 obtain ⟨t',ht'⟩:∃z,z=t+1:=⟨_,rfl⟩
                 have x1:IntKind.i64.wrap ((t:Int)+1)=(t':Int):=by have:=HKM.out;rw [IntKind.wrap_i64];omega
                 have HT':Hid (t'≤K∧t'=t+1):=⟨by omega,ht'⟩
                 have HMS2:Hid (K - (RowKit.intOf (Value.int .i64 (t':Int))).toNat<K - (RowKit.intOf (Value.int .i64 (t:Int))).toNat):=by show _<_;simp [RowKit.intOf];omega
                 have j2:(0:Int)≤(t:Int):=by omega
                 have j3:(t:Int)<(K:Int):=by omega
                 obtain ⟨gj,hAj,hcell⟩:=HELS.out t htl
                 have hz:(nx X Y m (q:Int))[t]?=some ((nx X Y m (q:Int)).getD t 0):=by
                  have:t<(nx X Y m (q:Int)).length:=by rw [HKL.out];exact htl
                  simp [List.getD,this]
                 have hzz:=nx_at hz
                 obtain ⟨ke,hke,hxk,hyk⟩:=zK8.1 hzz.2.2
                 have hbd:=HE.out.y ke hke
                 obtain ⟨z,hz1⟩:∃z,(nx X Y m (q:Int)).getD t 0=z:=⟨_,rfl⟩
                 rw [hz1] at hcell hzz hyk
                 obtain ⟨kk,hkk⟩:∃kk:Nat,z=(kk:Int):=⟨z.toNat,by omega⟩
                 subst hkk
                 have hkn:kk<i:=by omega
                 have ce:=hcell wr HWB.out
                 have HZZ:=LH hzz
                 subst hAj
                 have j4:(0:Int)≤(kk:Int):=by omega
                 have j5:(kk:Int)<(i:Int):=by omega
                 have cw:=HWA.out.cell kk
                 have fw:=HWA.out.frozen kk
                 rw [wcs_at hkn] at cw
                 have hless:=HKm.out.less HQN.out.2 HQN.out.1 hkn hzz.2.2 hzz.2.1
                 have hwn:=wt_le X Y m i (L++[(q:Int)]) (kk:Int)
                 obtain ⟨wv,hwv⟩:∃wv,W' kk=wv:=⟨_,rfl⟩
                 rw [hwv] at cw
                 obtain ⟨wv',hwv'⟩:∃z,z=wv - 1:=⟨_,rfl⟩
                 have x2:IntKind.i64.wrap (wv - 1)=wv':=by
                  rw [hwv',IntKind.wrap_i64]
                  rw [hwv] at hless
                  have:=HN.out;omega
                 have HWS:Hid (wset W' kk wv' kk=(wt X Y m i (L++[(q:Int)]) (kk:Int):Int)):=by
                  show _=_
                  rw [zL0,hwv',←hwv];exact hless.1
                 have HWA8:Hid (Blk (wr.setCell ⟨w1.heap.size,kk,none⟩ (.int .i64 wv')) w1.heap.size 3 (wcs i (wset W' kk wv'))):=by have:=HWA.out.set_ kk (.int .i64 wv');rwa [wcs_set] at this
                 have HWB8:Hid (Below w1.heap.size w1 (wr.setCell ⟨w1.heap.size,kk,none⟩ (.int .i64 wv'))):=HWB.out.setCell (p:=⟨w1.heap.size,kk,none⟩) (nl _) _
                 have HQ8:Hid (QAt (w1.heap.size+1) (wr.setCell ⟨w1.heap.size,kk,none⟩ (.int .i64 wv')) g off c R):=HQ.out.grown (zB5 wr w1.heap.size kk _) (fun e=>by have:=Option.some.inj e;have:=HQ.out.1;omega)
                 have HO8:Hid ((wr.setCell ⟨w1.heap.size,kk,none⟩ (.int .i64 wv')).ownsRow (w1.heap.size+1) 3 1 u2 (NL+1) (ic (L++[(q:Int)]))):=by
                  refine HO.out.kept (zB5 wr w1.heap.size kk _) ?_
                  cases e1:u2.ownBlock with
                  |none=>exact .inl rfl
                  |some gg=>exact .inr fun e2=>by have:=(HO.out.lt gg e1).1;have:=Option.some.inj e2;omega
                 have HFR:Hid ((kk:Int)∉R):=HK.out.fresh HQN.out.2 HKm.out hzz.2.2 hzz.2.1
                 have HSRT:=LH HKm.out.srt
                 clear ht' hz hzz hke hxk hyk hbd hz1 hcell hkn hless hwn hwv hwv' htl HQ HO HWA HWB
                 by_cases h0:wv'=0
                 ·subst h0
                  have SB:Hid (∀w',QAt (w1.heap.size+1) w' g off c R→Calls Tryz.prog 140 #[.slice (some ⟨g,off,none⟩) N c,.int .i64 (kk:Int)] w' fun e w''=>∃b,e= .returned (.tuple #[.int .i64 (R.countP (·<(kk:Int)):Nat),.bool b])∧Below w'.heap.size w' w''):=fun w' h=>by rw [HT.out.2];exact dsearch _ g off c (kk:Int) R w' h HRB.out HSRT.out
                  have SI:Hid (∀w' vb,QAt (w1.heap.size+1) w' g off c R→w1.heap.size+1≤w'.heap.size→Blk w' vb 3 #[.int .i64 (kk:Int)]→vb≠g→Calls Tryz.prog 141 #[.slice (some ⟨g,off,none⟩) N c,.int .i64 (R.countP (·<(kk:Int)):Nat),.slice (some ⟨vb,0,none⟩) 1 1] w' (InsPost (w1.heap.size+1) (kk:Int) R g w')):=fun w' vb h h1 h2 h3=>by rw [HT.out.2];exact dinsert _ g off c vb (kk:Int) R w' h h1 HRB.out h2 h3
                  generalize R.countP (·<(kk:Int))=cp at SB SI
                  go_wp2_with (first
                   |(go_at_call 140
                     with_reducible refine (SB.out _ ?_).mono ?_
                     focus (exact HQ8.out)
                     rintro e w9 ⟨bb,rfl,hb9⟩
                     have HQ9:=LH (HQ8.out.call hb9)
                     have HO9:=LH (zB7 HO8.out hb9)
                     have HWA9:=LH (HWA8.out.call hb9)
                     have HWB9:=LH (zA1 HWB8.out hb9)
                     clear hb9)
                   |(go_at_call 141
                     with_reducible refine (SI.out _ _ ?_ ?_ ?_ ?_).mono ?_
                     focus (exact HQ9.out.alloc _)
                     focus (exact zA9 HWA9.out.lt _)
                     focus (exact Blk.new _ _ _)
                     focus (exact Nat.ne_of_gt HQ9.out.lt)
                     rintro e w10 ⟨g2,off2,c3,rfl,hq10,hg10,hgg⟩
                     have HQ10:=LH hq10
                     have HG10:=LH hg10
                     have HGG:=LH hgg
                     clear hq10 hg10 hgg))
                  go_roundw
                  case rel=>
                   have hgB:w1.heap.size+1≤g:=HQ9.out.1
                   refine ⟨t',R.length+1,ins (kk:Int) R,wset W' kk 0,g2,off2,c3,rfl,rfl,⟨HT'.out.1,(ins_len _ _).symm⟩,HQ10,?_,?_,?_,?_,?_⟩
                   ·intro e
                    rcases HGG.out with h |h
                    ·rw [h] at e;exact HSEP.out e
                    ·have:=(HO9.out.lt _ e).2
                     simp only [World.size_alloc] at h
                     omega
                   ·refine (HO9.out.alloc _).kept HG10.out ?_
                    cases e1:u2.ownBlock with
                    |none=>exact .inl rfl
                    |some gg=>exact .inr fun e2=>HSEP.out (by rw [e1,e2])
                   ·exact (HWA9.out.alloc _).grown HG10.out (fun e=>by have:=Option.some.inj e;omega)
                   ·exact zB9 (HWB9.out.alloc HWB9.out.size _) (by have:=HWB9.out.size;simp;omega) HG10.out (fun g' e=>by have:=Option.some.inj e;omega)
                   ·rw [HT'.out.2,HZZ.out.1]
                    exact HKm.out.goes HWS.out (wset_other _ _ _) (zL0 _ _ _) HFR.out
                  case measure=>exact HMS2.out
                 ·have t0:(wv'==0)=false:=by simpa using h0
                  have t1:decide (wv'=0)=false:=dF h0
                  have HH0:=LH h0
                  clear h0
                  go_wp2_with fail
                  go_roundw
                  case rel=>
                   refine ⟨t',N,R,wset W' kk wv',g,off,c,rfl,rfl,⟨HT'.out.1,HT.out.2⟩,HQ8,HSEP,HO8,HWA8,HWB8,?_⟩
                   rw [HT'.out.2,HZZ.out.1]
                   exact HKm.out.stay HWS.out (wset_other _ _ _) (by rw [zL0];exact HH0.out)
                  case measure=>exact HMS2.out
                ·have e:t=K:=by have:=HT.out.1;omega
                 have T1:decide ((t:Int)<(K:Int))=false:=by simp<;> omega
                 have T1':decide (t<K)=false:=dF htl
                 have HTE:=LH e
                 clear htl e
                 go_wp2_with fail
                 go_roundg (i - (NL+1))
                 case measure=>
                  have h1:=HG.out
                  have h2:=HLB.out
                  rw [List.length_append,List.length_singleton] at h2
                  have h3:=HNL.out
                  omega
                 case rel=>
                  refine ⟨L++[(q:Int)],R,W',.inr ⟨g,off,c,by rw [HT.out.2],HQ.out,HSEP.out⟩,?_,HWA,HWB,?_,?_⟩
                  ·rw [List.length_append,HNL.out];exact HO.out
                  ·have:=HKm.out
                   rw [HTE.out,←HKL.out,List.take_length] at this
                   exact HK.out.next HE.out this
                  ·rw [List.length_append,HNL.out];exact nl _
def ordR (n:Nat) (X Y:Nat→Int) (m:Nat):List Int:=if (ordO n X Y m).length<n then [] else ordO n X Y m
def ordE (n:Nat) (X Y:Nat→Int) (m:Nat):Int:=if (ordO n X Y m).length<n then 22 else 0
def OrdPost2 (n:Nat) (X Y:Nat→Int) (m:Nat) (w:World) (e:Ending) (w':World):Prop:=
 ∃u,e= .returned (.tuple #[u,.int .i64 (ordE n X Y m)])∧w'.ownsRow w.heap.size 3 1 u (ordR n X Y m).length (ic (ordR n X Y m))∧Below w.heap.size w w'
set_option maxRecDepth 100000 in
theorem dOrder (A:Option Addr) (n m c:Nat) (X Y:Nat→Int) (w:World) (hn:n≤300) (hm:m≤1000) (hE:EdOK n X Y m) (ht:TabIn w A m X Y):
 Calls Tryz.prog 57 #[.int .i64 n,.slice A m c] w (OrdPost2 n X Y m w):=by
 have S1:=LH (dg_valid A n m c X Y w hn hm hE ht)
 have S2:Hid (∀w',Below w.heap.size w w'→Calls Tryz.prog 97 #[.int .i64 n,.slice A m c] w' (OrdPost n X Y m w')):=fun w' hb=>dorder A n m c X Y w' hn hm hE (ht.below (nl _) hb)
 clear hE ht hm hn
 by_cases hl:(ordO n X Y m).length<n
 ·have HR:Hid (ordR n X Y m=[]∧ordE n X Y m=22):=⟨by unfold ordR;rw [if_pos hl],by unfold ordE;rw [if_pos hl]⟩
  obtain ⟨N,hN⟩:∃N,(ordO n X Y m).length=N:=⟨_,rfl⟩
  rw [hN] at hl
  have t0:decide ((N:Int)<(n:Int))=true:=dT (by omega)
  have t0':decide (N<n)=true:=dT hl
  have HN:=LH hN
  clear hl hN
  go_enter Tryz.func57,Tryz.ntmps57
  go_wp2_with (first
   |(go_at_call 91
     with_reducible refine S1.out.mono ?_
     rintro e w1 ⟨rfl,hb1⟩
     have HB1:=LH hb1
     clear hb1)
   |(go_at_call 97
     with_reducible refine (S2.out _ HB1.out).mono ?_
     rintro e w2 ⟨u,rfl,ho,hb2⟩
     rw [HN.out] at ho
     obtain ⟨A2,c2,rfl⟩:=zE5 ho
     have HB2:=LH (zA1 HB1.out hb2)
     clear ho hb2))
  go_ret2
  refine ⟨.slice none 0 0,?_,?_,HB2.out⟩
  ·rw [HR.out.2];rfl
  ·rw [HR.out.1];exact World.ownsRow_nil _ _ _ _
 ·have HR:Hid (ordR n X Y m=ordO n X Y m∧ordE n X Y m=0):=⟨by unfold ordR;rw [if_neg hl],by unfold ordE;rw [if_neg hl]⟩
  obtain ⟨N,hN⟩:∃N,(ordO n X Y m).length=N:=⟨_,rfl⟩
  rw [hN] at hl
  have t0:decide ((N:Int)<(n:Int))=false:=dF (by omega)
  have t0':decide (N<n)=false:=dF hl
  have HN:=LH hN
  clear hl hN
  go_enter Tryz.func57,Tryz.ntmps57
  go_wp2_with (first
   |(go_at_call 91
     with_reducible refine S1.out.mono ?_
     rintro e w1 ⟨rfl,hb1⟩
     have HB1:=LH hb1
     clear hb1)
   |(go_at_call 97
     with_reducible refine (S2.out _ HB1.out).mono ?_
     rintro e w2 ⟨u,rfl,ho,hb2⟩
     rw [HN.out] at ho
     obtain ⟨A2,c2,rfl⟩:=zE5 ho
     have HO:=LH ho
     have HB2:=LH (zA1 HB1.out hb2)
     clear ho hb2))
  go_ret2
  refine ⟨.slice A2 N c2,?_,?_,HB2.out⟩
  ·rw [HR.out.2];rfl
  ·rw [HR.out.1,HN.out];exact zI8 HO.out HB1.out.size
def ReachPost2 (n:Nat) (X Y:Nat→Int) (m:Nat) (S:Int→Prop) (w:World) (e:Ending) (w':World):Prop:=
 ∃(O:Nat) (o:Nat→Bool),e= .returned (.tuple #[.slice (some ⟨O,0,none⟩) n n,.int .i64 0])∧w.heap.size≤O∧BlAt w' O n o∧(∀v,v<n→(o v=true↔Rch X Y m S (v:Int)))∧Below w.heap.size w w'
set_option maxRecDepth 100000 in
set_option maxHeartbeats 4000000 in
theorem dReach (A F:Option Addr) (n m c f fc:Nat) (X Y C:Nat→Int) (w:World) (hn:n≤300) (hm:m≤1000) (hf:f≤1000) (hE:EdOK n X Y m) (ht:TabIn w A m X Y) (hF:IntIn w F f C) (hC:∀j,j<f→0≤C j∧C j<n):
 Calls Tryz.prog 104 #[.int .i64 n,.slice A m c,.slice F f fc] w (ReachPost2 n X Y m (srcP f C) w):=by
 have S1:Hid (∀w',Below w.heap.size w w'→Calls Tryz.prog 91 #[.int .i64 n,.slice A m c] w' fun e w''=>e= .returned (.bool true)∧Below w'.heap.size w' w''):=fun w' hb=>dg_valid A n m c X Y w' hn hm hE (ht.below (nl _) hb)
 have S2:Hid (∀w' g,Below w.heap.size w w'→w'.cell? ⟨g,0,none⟩=some (.int .i64 n)→g<w'.heap.size→Calls Tryz.prog 145 #[.slice F f fc,.func (.func 146) #[] #[.pointer (some ⟨g,0,none⟩)]] w' fun e w''=>e= .returned (.bool false)∧Below w'.heap.size w' w''):=fun w' g hb hg hl=>dg_hasr F n g f fc C w' hf hC (hF.below (nl _) hb) hg hl
 have S3:Hid (∀w',Below w.heap.size w w'→Calls Tryz.prog 92 #[.int .i64 n,.slice A m c] w' (NextPost n X Y m w')):=fun w' hb=>dnext A n m c X Y w' hn hm hE (ht.below (nl _) hb)
 have S4:Hid (∀w' b,Below w.heap.size w w'→AfIn w' b n (fun i=>nx X Y m (i:Int))→Calls Tryz.prog 147 #[.slice (some ⟨b,0,none⟩) n n,.slice F f fc] w' (ReachPost n X Y m (srcP f C) w')):=fun w' b hb ha=>dreach b n m F f fc X Y C w' hn hm hf hE ha (hF.below (nl _) hb) hC
 have t2:decide ((1000:Int)<(f:Int))=false:=dF (by omega)
 have t2':decide (1000<f)=false:=dF (by omega)
 clear hE ht hm hn hf hF hC
 go_enter Tryz.func104,Tryz.ntmps104
 go_wp2_with (first
  |(go_at_call 91
    with_reducible refine (S1.out _ ?_).mono ?_
    focus (exact (bR _ w).alloc (nl _) _)
    rintro e w1 ⟨rfl,hb1⟩
    have HB1:=LH ((Blk.new w 3 #[.int .i64 (n:Int)]).call hb1)
    have HW1:Hid (Below w.heap.size w w1):=((bR _ w).alloc (nl _) _).trans (hb1.mono (by simp))
    have y1:=HB1.out.cell 0
    simp only [List.getElem?_toArray,List.getElem?_cons_zero] at y1
    clear hb1)
  |(go_at_call 145
    with_reducible refine (S2.out _ _ ?_ ?_ ?_).mono ?_
    focus (exact HW1.out)
    focus (exact y1)
    focus (exact HB1.out.lt)
    rintro e w2 ⟨rfl,hb2⟩
    have HW2:Hid (Below w.heap.size w w2):=zA1 HW1.out hb2
    have y2:=(HB1.out.call hb2).cell 0
    simp only [List.getElem?_toArray,List.getElem?_cons_zero] at y2
    clear hb2)
  |(go_at_call 92
    with_reducible refine (S3.out _ ?_).mono ?_
    focus (exact HW2.out)
    rintro e w3 ⟨b3,rfl,hb3g,ha3,hb3⟩
    have HA3:=LH ha3
    have HW3:Hid (Below w.heap.size w w3):=zA1 HW2.out hb3
    clear hb3g ha3 hb3)
  |(go_at_call 147
    with_reducible refine (S4.out _ _ ?_ ?_).mono ?_
    focus (exact HW3.out)
    focus (exact HA3.out)
    rintro e w4 ⟨O,o,rfl,hO,hBl,ho,hb4⟩
    have HO:=LH hO
    have HBL:=LH hBl
    have HOO:=LH ho
    have HW4:Hid (Below w.heap.size w w4):=zA1 HW3.out hb4
    clear hO hBl ho hb4))
 go_ret2
 exact ⟨O,o,rfl,nT HW3.out.size HO.out,HBL.out,HOO.out,HW4.out⟩
def nextP (X Y:Nat→Int) (m:Nat) (i:Int) (z:Int):Prop:=∃k,k<m∧X k=i∧Y k=z
def WayP (X Y:Nat→Int) (m:Nat) (i:Int) (z:Int):Prop:=Rch X Y m (nextP X Y m i) z
noncomputable def wayB (X Y:Nat→Int) (m:Nat) (i:Int) (v:Nat):Bool:=@decide (WayP X Y m i (v:Int)) (Classical.propDecidable _)
theorem zK1 {X Y:Nat→Int} {m:Nat} {i:Int} {v:Nat}:wayB X Y m i v=true↔WayP X Y m i (v:Int):=by unfold wayB;exact @decide_eq_true_iff _ (Classical.propDecidable _)
def nmL (D:Nds) (o:Nat→Bool) (j:Nat):List ByteArray:=((List.range j).filter o).map D.Nm
theorem zL5 (D:Nds) (o:Nat→Bool) (j:Nat):nmL D o (j+1)=nmL D o j++(if o j=true then [D.Nm j] else []):=by
 unfold nmL
 rw [List.range_succ,List.filter_append,List.map_append]
 congr 1
 cases h:o j<;> simp [h]
theorem nmL_len (D:Nds) (o:Nat→Bool) (j:Nat):(nmL D o j).length≤j:=by
 unfold nmL
 rw [List.length_map]
 exact nT (List.length_filter_le _ _) (by simp)
theorem nmL_congr {D:Nds} {o o':Nat→Bool} {j:Nat} (h:∀v,v<j→o v=o' v):nmL D o j=nmL D o' j:=by
 unfold nmL
 congr 1
 apply List.filter_congr
 intro v hv
 exact h v (List.mem_range.1 hv)
theorem nfound (NA LA:Option Addr) (n nc m lc:Nat) (v:Int) (w:World):
 Calls Tryz.prog 65 #[.agg #[.slice NA n nc,.slice LA m lc],.int .i64 v] w fun e w'=>e= .returned (.tuple #[.int .i64 (if v<0 then 0 else v),.int .i64 (if v<0 then 9 else 0)])∧Below w.heap.size w w':=by
 by_cases h:v<0
 ·have t:decide (v<0)=true:=dT h
  rw [if_pos h,if_pos h]
  clear h
  go_enter Tryz.func65,Tryz.ntmps65
  go_wp2_with fail
  go_ret2
  exact ⟨rfl,bel⟩
 ·have t:decide (v<0)=false:=dF h
  rw [if_neg h,if_neg h]
  clear h
  go_enter Tryz.func65,Tryz.ntmps65
  go_wp2_with fail
  go_ret2
  exact ⟨rfl,bel⟩
theorem h63_w {n:Nat} (h:n≤300):n+1≤maxLen:=by simp only [maxLen];omega
theorem hby_w {n:Nat} (h:n≤300):(n+1)*16≤140737488355328:=by omega
def WayPost (D:Nds) (n:Nat) (X Y:Nat→Int) (m:Nat) (i:Int) (w:World) (e:Ending) (w':World):Prop:=
 (i<0∧e= .returned (.tuple #[.slice none 0 0,.int .i64 9])∧Below w.heap.size w w')∨(0≤i∧∃u,e= .returned (.tuple #[u,.int .i64 0])∧RMem w w' u (nmL D (wayB X Y m i) n).length (nmL D (wayB X Y m i) n))
set_option maxRecDepth 100000 in
set_option maxHeartbeats 8000000 in
theorem nways (NA LA A:Option Addr) (n nc l lc m c:Nat) (D:Nds) (X Y:Nat→Int) (s:ByteArray) (w:World) (hn:n≤300) (hm:m≤1000) (hE:EdOK n X Y m) (hD:NdIn w NA n D) (ht:TabIn w A m X Y):
 Calls Tryz.prog 61 #[.agg #[.slice NA n nc,.slice LA l lc],.string s,.slice A m c] w (WayPost D n X Y m (fnd D.Nm n s) w):=by
 obtain ⟨i0,hi0,hz0,hz1,hz2⟩:=zA8 infoI
 have HI0:=LH hi0
 have HZ0:=LH hz0
 have HZ1:=LH hz1
 have HZ2:=LH hz2
 obtain ⟨s0,hs0',hy0,hy1,hy2⟩:=zA8 infoS
 have SI0:=LH hs0'
 have SZ0:=LH hy0
 have SZ1:=LH hy1
 have SZ2:=LH hy2
 have HN:=LH hn
 have HM:=LH hm
 have HE:=LH hE
 have HD:=LH hD
 have HT:=LH ht
 have hbd:=fnd_bd D.Nm n s
 have S1:Hid (∀w',Below w.heap.size w w'→Calls Tryz.prog 66 #[.agg #[.slice NA n nc,.slice LA l lc],.string s] w' fun e w''=>e= .returned (.int .i64 (fnd D.Nm n s))∧Below w'.heap.size w' w''):=fun w' hb=>n_node NA LA n nc l lc D s w' (by omega) (hD.below (nl _) hb)
 generalize fnd D.Nm n s=fi at hbd S1⊢
 have S2:=LH fun w=>nfound NA LA n nc l lc fi w
 obtain ⟨vi,hvi⟩:∃z:Int,(if fi<0 then 0 else fi)=z:=⟨_,rfl⟩
 obtain ⟨ve,hve⟩:∃z:Int,(if fi<0 then (9:Int) else 0)=z:=⟨_,rfl⟩
 rw [hvi,hve] at S2
 have HVI:=LH hvi
 have HVE:=LH hve
 have HBD:=LH hbd
 clear hi0 hz0 hz1 hz2 hs0' hy0 hy1 hy2 hn hm hE hD ht hbd hvi hve
 go_enter Tryz.func61,Tryz.ntmps61
 go_upto_region 1 with fail
 have HBG:Hid (Blk (w.alloc (Obj.cells #[.slice NA n nc,.slice LA l lc] 25)) w.heap.size 25 #[.slice NA n nc,.slice LA l lc]):=Blk.new _ _ _
 have HW4:Hid (Below w.heap.size w (w.alloc (Obj.cells #[.slice NA n nc,.slice LA l lc] 25))):=(bR _ w).alloc (nl _) _
 generalize w.alloc (Obj.cells #[.slice NA n nc,.slice LA l lc] 25)=w4 at HBG HW4⊢
 have hs0:w4.cell? ⟨w.heap.size,0,none⟩=some (.slice NA n nc)∧w4.cell? ⟨w.heap.size,1,none⟩=some (.slice LA l lc):=zA3 HBG.out
 have HS:Hid (∀w',Below w4.heap.size w4 w'→w'.cell? ⟨w.heap.size,0,none⟩=some (.slice NA n nc)∧w'.cell? ⟨w.heap.size,1,none⟩=some (.slice LA l lc)):=fun w' hb=>zA3 (HBG.out.call hb)
 go_region_held3 (fun w'=>w'.cell? ⟨w.heap.size,0,none⟩=some (.slice NA n nc)∧w'.cell? ⟨w.heap.size,1,none⟩=some (.slice LA l lc)) (first
  |exact hs0
  |exact HS.out _ hq5
  |exact HS.out _ hq6
  |exact HS.out _ hq5.drew
  |exact HS.out _ hq6.drew
  |exact HS.out _ (bR _ w4).drew) (first
  |(go_at_call 66
    with_reducible refine (S1.out _ ?_).mono ?_
    focus (first |exact HW4.out |exact HW4.out.drew)
    rintro e w5 ⟨rfl,hb5⟩
    have hq5:Below w4.heap.size w4 w5:=by first |exact hb5 |exact (bR _ w4).drew.trans hb5
    clear hb5)
  |(go_at_call 65
    with_reducible refine (S2.out _).mono ?_
    rintro e w6 ⟨rfl,hb6⟩
    have hq6:Below w4.heap.size w4 w6:=by first |exact hq5.trans (hb6.mono hq5.size)|exact hq5.drew.trans (hb6.mono hq5.size)
    have HQ6:=LH hq6
    clear hb6))
 have HB6:=LH (HBG.out.call HQ6.out)
 have HW6:=LH (zA1 HW4.out HQ6.out)
 clear HBG HW4 HS hs0 hq5 hq6 HQ6 S1 S2
 by_cases hneg:fi<0
 ·have h1:=HVI.out
  have h2:=HVE.out
  rw [if_pos hneg] at h1 h2
  subst h1 h2
  have HNG:=LH hneg
  clear hneg HVI HVE
  go_wp2_with fail
  go_ret2
  exact .inl ⟨HNG.out,rfl,HW6.out⟩
 have h1:=HVI.out
 have h2:=HVE.out
 rw [if_neg hneg] at h1 h2
 subst h1 h2
 obtain ⟨q,hq⟩:∃q:Nat,fi=(q:Int):=⟨fi.toNat,by omega⟩
 subst hq
 have HQN:Hid (q<n):=by
  show q<n
  rcases HBD.out with h |⟨k,hk,e,_⟩
  ·omega
  ·omega
 clear hneg HVI HVE HBD
 go_wp2_with fail
 obtain ⟨wz,hwz⟩:∃wz:World,wz=w6:=⟨_,rfl⟩
 go_loopw [10,30] (fun u x wr=>∃k:Nat,x= .int .i64 k∧Hid (k≤m)∧Hid (wr.ownsRow w6.heap.size 3 1 u (tgt X Y k (q:Int)).length (ic (tgt X Y k (q:Int))))∧Hid (Blk wr w.heap.size 25 #[.slice NA n nc,.slice LA l lc])∧Hid (Below w6.heap.size w6 wr)) (fun _ x _=>m - (RowKit.intOf x).toNat)
 case atStart=>exact ⟨0,rfl,Nat.zero_le _,World.ownsRow_nil _ _ _ _,HB6,bR _ _⟩
 case round=>
  obtain ⟨k,rfl,Hk,HO,HB,HWr⟩:=hrel
  obtain ⟨A0,cap0,h8⟩:=zE5 HO.out
  subst h8
  obtain ⟨N,hN⟩:∃N,(tgt X Y k (q:Int)).length=N:=⟨_,rfl⟩
  rw [hN] at HO⊢
  have HNN:=LH hN
  have HWW:=LH (zA1 HW6.out HWr.out)
  clear hN
  by_cases hlt:k<m
  ·have T0:decide ((k:Int)<(m:Int))=true:=by simp<;> omega
   have T0':decide (k<m)=true:=dT hlt
   obtain ⟨k',hk'⟩:∃z,z=k+1:=⟨_,rfl⟩
   have x0:IntKind.i64.wrap ((k:Int)+1)=(k':Int):=by have:=HM.out;rw [IntKind.wrap_i64];omega
   have HK':Hid (k'≤m∧k'=k+1):=⟨by omega,hk'⟩
   have HMS:Hid (m - (RowKit.intOf (Value.int .i64 (k':Int))).toNat<m - (RowKit.intOf (Value.int .i64 (k:Int))).toNat):=by show _<_;simp [RowKit.intOf];omega
   have k0:(0:Int)≤(k:Int):=by omega
   have k1:(k:Int)<(m:Int):=by omega
   obtain ⟨b,off,rfl,hb,c0,c1⟩:=(HT.out.below (nl _) HWW.out).at hlt
   have HRS:=LH (tgt_succ X Y k (q:Int))
   have HL2:Hid (N≤2000):=by show _≤_;have:=tgt_len X Y k (q:Int);have:=HM.out;have:=HNN.out;omega
   clear hk' hlt
   go_upto_region 8 with fail
   have hal:Below wr.heap.size wr (wr.alloc (Obj.cells #[.int .i64 (X k),.int .i64 (Y k)] 38)):=(bR _ wr).alloc (nl _) _
   have HBX:Hid (Blk (wr.alloc (Obj.cells #[.int .i64 (X k),.int .i64 (Y k)] 38)) wr.heap.size 38 #[.int .i64 (X k),.int .i64 (Y k)]):=Blk.new _ _ _
   have HO5:=LH (zB7 HO.out hal)
   have HB5:=LH (HB.out.call hal)
   have HW5:=LH (zA1 HWr.out hal)
   clear hal c0 c1 hb HO HB HWr HWW
   generalize wr.alloc (Obj.cells #[.int .i64 (X k),.int .i64 (Y k)] 38)=w5 at HBX HO5 HB5 HW5⊢
   generalize wr.heap.size=G at HBX⊢
   obtain ⟨y0,y1⟩:=zA3 HBX.out
   have HSZ:=LH HW5.out.size
   by_cases hx:X k=(q:Int)
   ·rw [hx] at y0
    have HX:=LH hx
    clear hx
    obtain ⟨vy,hvy⟩:∃z,Y k=z:=⟨_,rfl⟩
    rw [hvy] at y1
    have HVY:=LH hvy
    clear hvy
    go_wp2_with (first
     |(at_builtin;refine wpList_append_own_at _ ?q1_1 (.tmp 38) (.tmp 41) 32 ?q1_2 w6.heap.size 3 i0 (.int .i64 0) 1 8 Tryz.underlying32 HI0.out HZ0.out HZ1.out HZ2.out ?q1_3 ?q1_4 (.slice A0 N cap0) N (ic (tgt X Y k (q:Int))) ?q1_5 (HO5.out.alloc _) ⟨w5.heap.size,0,none⟩ 1 1 [.int .i64 vy] ?q1_7 (rfl) (World.news_of_block (cs:=#[.int .i64 vy]) (t:=3) (fr:=(0,0)) (heap_alloc_new _ _)) (by simp [Value.oneCell']) (h63_n HL2.out) (hby_n HL2.out) (zA9 HSZ.out _) ?q1_14
       case q1_1=>exact rfl
       case q1_2=>exact rfl
       case q1_3=>exact rfl
       case q1_4=>decide
       case q1_5=>exact rfl
       case q1_7=>exact rfl
       intro u2 w7 hown2 hgrow2 hnil2 hat2
       have HO7:=LH hown2
       have HG7:=LH hgrow2
       clear hown2 hgrow2 hnil2 hat2))
    go_roundw
    case rel=>
     refine ⟨k',rfl,HK'.out.1,?_,?_,?_⟩
     ·rw [HK'.out.2,HRS.out,if_pos HX.out,HVY.out,zH7,List.length_append,HNN.out]
      exact HO7.out
     ·exact (HB5.out.alloc _).grown HG7.out (fun e=>zE2 HO5.out HB5.out (by decide) e.symm)
     ·exact zB9 (HW5.out.alloc HW5.out.size _) (by have:=HW5.out.size;simp;omega) HG7.out (fun g' e=>(HO5.out.lt g' e).1)
    case measure=>exact HMS.out
   ·have t0:(X k==(q:Int))=false:=by simpa using hx
    have t1:decide (X k=(q:Int))=false:=dF hx
    have HX:=LH hx
    clear hx
    go_wp2_with fail
    go_roundw
    case rel=>
     refine ⟨k',rfl,HK'.out.1,?_,HB5,HW5⟩
     rw [HK'.out.2,HRS.out,if_neg HX.out,List.append_nil,HNN.out]
     exact HO5.out
    case measure=>exact HMS.out
  ·have e:k=m:=by have:=Hk.out;omega
   have T0:decide ((k:Int)<(m:Int))=false:=by simp<;> omega
   have T0':decide (k<m)=false:=dF hlt
   subst e
   clear hlt Hk
   have HLE:Hid (N≤k):=by show N≤k;rw [←HNN.out];exact tgt_len X Y k (q:Int)
   have S3:Hid (Calls Tryz.prog 104 #[.int .i64 (n:Int),.slice A k c,.slice A0 N cap0] wr (ReachPost2 n X Y k (nextP X Y k (q:Int)) wr)):=by
        have hint:IntIn wr A0 N (fun j=>(tgt X Y k (q:Int)).getD j 0):=by
         have hb:=HLE.out
         have hm':=HM.out
         refine ⟨by omega,?_⟩
         rcases HO.out.2 with ⟨hv,h0⟩|⟨g,cap,cur,hv,_⟩
         ·exact .inl h0
         ·cases hv
          refine .inr ⟨g,0,rfl,(HO.out.lt g rfl).2,fun j hj=>?_⟩
          rw [Nat.zero_add,HO.out.cellAt j (by omega)]
          exact ic_get (by rw [HNN.out];exact hj)
        have hmem:∀j,j<N→(tgt X Y k (q:Int)).getD j 0∈tgt X Y k (q:Int):=fun j hj=>by
         have:j<(tgt X Y k (q:Int)).length:=by rw [HNN.out];exact hj
         simp [List.getD,this]
        have hsrc:∀z,srcP N (fun j=>(tgt X Y k (q:Int)).getD j 0) z↔nextP X Y k (q:Int) z:=fun z=>by
         constructor
         ·rintro ⟨j,hj,e⟩
          exact mem_tgt.1 (by rw [←e];exact hmem j hj)
         ·intro h
          obtain ⟨j,hj,e⟩:=List.mem_iff_getElem.1 (mem_tgt.2 h)
          exact ⟨j,by rw [←HNN.out];exact hj,by simp [List.getD,hj,e]⟩
        refine (dReach A A0 n k c N cap0 X Y (fun j=>(tgt X Y k (q:Int)).getD j 0) wr HN.out HM.out (by have:=HLE.out;have:=HM.out;omega) HE.out (HT.out.below (nl _) HWW.out) hint (fun j hj=>?_)).mono ?_
        ·obtain ⟨k2,hk2,_,e⟩:=mem_tgt.1 (hmem j hj)
         rw [←e];exact HE.out.y k2 hk2
        ·rintro e w' ⟨O,o,rfl,hO,hbl,ho,hb⟩
         refine ⟨O,o,rfl,hO,hbl,fun v hv=>(ho v hv).trans ⟨fun h=>h.mono fun z hz=>(hsrc z).1 hz,fun h=>h.mono fun z hz=>(hsrc z).2 hz⟩,hb⟩
   obtain ⟨y0,y1⟩:=zA3 HB.out
   clear hwz HO HWW HB6
   go_wp2_with (first
        |(go_at_call 104
          with_reducible refine S3.out.mono ?_
          rintro e w8 ⟨O,o,rfl,hO,hbl,ho,hb8⟩
          have HBL:=LH hbl
          have HOO:=LH ho
          have HW8:=LH hb8
          have HB8:=LH (HB.out.call hb8)
          obtain ⟨z0,z1⟩:=zA3 HB8.out
          clear hO hbl ho hb8))
   clear S3 y0 y1 HB
   obtain ⟨wz,hwz⟩:∃wz:World,wz=w8:=⟨_,rfl⟩
   have HD8:=LH (HD.out.below (nl _) (zA1 (zA1 HW6.out HWr.out) HW8.out))
   have HNM:Hid (nmL D o n=nmL D (wayB X Y k (q:Int)) n):=nmL_congr fun v hv=>by
        have h1:=HOO.out v hv
        cases h2:o v with
        |true=>exact (zK1.2 (h1.1 h2)).symm
        |false=>
         cases h3:wayB X Y k (q:Int) v with
         |false=>rfl
         |true=>have:=h1.2 (zK1.1 h3);rw [h2] at this;cases this
   go_loopw [14,59] (fun u x wx=>∃j:Nat,x= .int .i64 j∧Hid (j≤n)∧Hid (wx.ownsRow w8.heap.size 9 1 u (nmL D o j).length (sc (nmL D o j)))∧Hid (Below w8.heap.size w8 wx)) (fun _ x _=>n - (RowKit.intOf x).toNat)
   case atStart=>exact ⟨0,rfl,Nat.zero_le _,World.ownsRow_nil _ _ _ _,bR _ _⟩
   case round=>
        obtain ⟨j,rfl,Hj,HO,HWx⟩:=hrel
        obtain ⟨A3,cap3,h8⟩:=zE5 HO.out
        subst h8
        obtain ⟨N3,hN3⟩:∃N3,(nmL D o j).length=N3:=⟨_,rfl⟩
        rw [hN3] at HO⊢
        have HN3:=LH hN3
        clear hN3 z0 z1
        by_cases hlt:j<n
        ·have T0:decide ((j:Int)<(n:Int))=true:=by simp<;> omega
         have T0':decide (j<n)=true:=dT hlt
         obtain ⟨j',hj'⟩:∃z,z=j+1:=⟨_,rfl⟩
         have x0:IntKind.i64.wrap ((j:Int)+1)=(j':Int):=by have:=HN.out;rw [IntKind.wrap_i64];omega
         have HJ':Hid (j'≤n∧j'=j+1):=⟨by omega,hj'⟩
         have HMS:Hid (n - (RowKit.intOf (Value.int .i64 (j':Int))).toNat<n - (RowKit.intOf (Value.int .i64 (j:Int))).toNat):=by show _<_;simp [RowKit.intOf];omega
         have k0:(0:Int)≤(j:Int):=by omega
         have k1:(j:Int)<(n:Int):=by omega
         obtain ⟨bn,on,rfl,hbn,hC,_⟩:=(HD8.out.below (nl _) HWx.out).at hlt
         have c0:=hC 0 _ rfl
         have c1:=hC 1 _ rfl
         have c2:=hC 2 _ rfl
         have c3:=hC 3 _ rfl
         have c4:=hC 4 _ rfl
         have c5:=hC 5 _ rfl
         have c6:=hC 6 _ rfl
         have c7:=hC 7 _ rfl
         have c8:=hC 8 _ rfl
         simp only [Nat.add_zero] at c0
         have HRS:=LH (zL5 D o j)
         have HL2:Hid (N3≤300):=by show _≤_;have:=nmL_len D o j;have:=HN.out;have:=HN3.out;omega
         have hbl:=(HBL.out.below HWx.out).2 j hlt
         clear hj' hlt hC
         go_upto_region 18 with fail
         have hal:Below wr.heap.size wr (wr.alloc (Obj.cells (ndA D j) 55)):=(bR _ wr).alloc (nl _) _
         have HBX:Hid (Blk (wr.alloc (Obj.cells (ndA D j) 55)) wr.heap.size 55 (ndA D j)):=Blk.new _ _ _
         have HO5:=LH (zB7 HO.out hal)
         have HW5:=LH (zA1 HWx.out hal)
         have hbl5:=(HBL.out.below HW5.out).2 j (by omega)
         clear hal c0 c1 c2 c3 c4 c5 c6 c7 c8 hbn HO HWx hbl
         unfold ndA at HBX HO5 HW5 hbl5
         generalize wr.alloc (Obj.cells _ 55)=w5 at HBX HO5 HW5 hbl5⊢
         generalize wr.heap.size=G at HBX⊢
         have y0:=HBX.out.cell 0
         simp only [List.getElem?_toArray,List.getElem?_cons_zero] at y0
         have HSZ:=LH HW5.out.size
         obtain ⟨ob,hob⟩:∃z,o j=z:=⟨_,rfl⟩
         rw [hob] at hbl5
         have HOB:=LH hob
         clear hob
         cases ob with
         |true=>
          obtain ⟨vy,hvy⟩:∃z,D.Nm j=z:=⟨_,rfl⟩
          rw [hvy] at y0 HBX
          have HVY:=LH hvy
          clear hvy
          go_wp2_with (first
              |(at_builtin;refine wpList_append_own_at _ ?q2_1 (.tmp 68) (.tmp 71) 41 ?q2_2 w8.heap.size 9 s0 (.string ByteArray.empty) 1 16 Tryz.underlying41 SI0.out SZ0.out SZ1.out SZ2.out ?q2_3 ?q2_4 (.slice A3 N3 cap3) N3 (sc (nmL D o j)) ?q2_5 (HO5.out.alloc _) ⟨w5.heap.size,0,none⟩ 1 1 [.string vy] ?q2_7 (rfl) (World.news_of_block (cs:=#[.string vy]) (t:=9) (fr:=(0,0)) (heap_alloc_new _ _)) (by simp [Value.oneCell']) (h63_w HL2.out) (hby_w HL2.out) (zA9 HSZ.out _) ?q2_14
                case q2_1=>exact rfl
                case q2_2=>exact rfl
                case q2_3=>exact rfl
                case q2_4=>decide
                case q2_5=>exact rfl
                case q2_7=>exact rfl
                intro u2 w7 hown2 hgrow2 hnil2 hat2
                have HO7:=LH hown2
                have HG7:=LH hgrow2
                clear hown2 hgrow2 hnil2 hat2))
          go_roundw
          case rel=>
              refine ⟨j',rfl,HJ'.out.1,?_,?_⟩
              ·rw [HJ'.out.2,HRS.out,if_pos HOB.out,HVY.out,sc_append,List.length_append,HN3.out]
               exact HO7.out
              ·exact zB9 (HW5.out.alloc HW5.out.size _) (by have:=HW5.out.size;simp;omega) HG7.out (fun g' e=>(HO5.out.lt g' e).1)
          case measure=>exact HMS.out
         |false=>
          go_wp2_with fail
          go_roundw
          case rel=>
              refine ⟨j',rfl,HJ'.out.1,?_,HW5⟩
              rw [HJ'.out.2,HRS.out,if_neg (by rw [HOB.out];simp),List.append_nil,HN3.out]
              exact HO5.out
          case measure=>exact HMS.out
        ·have e:j=n:=by have:=Hj.out;omega
         have T0:decide ((j:Int)<(n:Int))=false:=by simp<;> omega
         have T0':decide (j<n)=false:=dF hlt
         have HJE:=LH e
         clear hlt e
         go_wp2_with fail
         go_ret2
         refine .inr ⟨by omega,_,rfl,?_,?_⟩
         ·have:=HO.out
          have hn3:=HN3.out
          have hnm:=HNM.out
          rw [HJE.out,hnm] at hn3 this
          rw [hn3]
          exact zI8 this (by have:=HW6.out.size;have:=HWr.out.size;have:=HW8.out.size;omega)
         ·exact zA1 (zA1 (zA1 HW6.out HWr.out) HW8.out) HWx.out
end Go.Proofs.YtghefgifhebniaaGreatDoor

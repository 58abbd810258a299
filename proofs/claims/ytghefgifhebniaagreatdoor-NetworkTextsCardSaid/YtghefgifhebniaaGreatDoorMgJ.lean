/- Merged texts of these proofs: NPp, NPq, NPs. -/
import Derived.Test.YtghefgifhebniaaGreatDoorMgR
import Derived.Test.YtghefgifhebniaaGreatDoorMgI
import Derived.Test.YtghefgifhebniaaGreatDoorMgC
namespace Go.Proofs.YtghefgifhebniaaGreatDoor
open Go.RowKit
set_option linter.unusedVariables false
set_option linter.unusedSimpArgs false
def zNd:Ndr:=⟨⟨#[]⟩,0,0,0,0,0,[],false,0⟩
def zLk:Lkr:=⟨⟨#[]⟩,⟨#[]⟩,⟨#[]⟩,0,0,0,0,⟨#[]⟩,0,0,[]⟩
def ndsR (N:List Ndr) (SA:Nat→Option Addr) (SC:Nat→Nat):Nds:=
 ⟨fun k=>(N.getD k zNd).nm,fun k=>(N.getD k zNd).kd,fun k=>(N.getD k zNd).ax,fun k=>(N.getD k zNd).ay,fun k=>(N.getD k zNd).iv,fun k=>(N.getD k zNd).gd,SA,fun k=>(N.getD k zNd).T.length,SC,fun k=>kX (N.getD k zNd).T,fun k=>kY (N.getD k zNd).T,fun k=>(N.getD k zNd).pt,fun k=>(N.getD k zNd).rs⟩
def lksR (L:List Lkr) (CA:Nat→Option Addr) (CC:Nat→Nat):Lks:=
 ⟨fun k=>(L.getD k zLk).nm,fun k=>(L.getD k zLk).fr,fun k=>(L.getD k zLk).tn,fun k=>(L.getD k zLk).kd,fun k=>(L.getD k zLk).ln,fun k=>(L.getD k zLk).up,fun k=>(L.getD k zLk).dn,fun k=>(L.getD k zLk).sc,fun k=>(L.getD k zLk).wd,fun k=>(L.getD k zLk).ht,CA,fun k=>(L.getD k zLk).T.length,CC,fun k=>kX (L.getD k zLk).T,fun k=>kY (L.getD k zLk).T⟩
def netV (N:List Ndr) (L:List Lkr):Prop:=netP (ndsR N (fun _=>none) (fun _=>0)) N.length (lksR L (fun _=>none) (fun _=>0)) L.length
theorem netV_iff (N:List Ndr) (L:List Lkr) (SA CA:Nat→Option Addr) (SC CC:Nat→Nat):netP (ndsR N SA SC) N.length (lksR L CA CC) L.length↔netV N L:=Iff.rfl
structure Ndm where
 x:Ndr
 A:Option Addr
 c:Nat
structure Lkm where
 x:Lkr
 A:Option Addr
 c:Nat
def ndx (M:List Ndm):List Ndr:=M.map (·.x)
def lkx (M:List Lkm):List Lkr:=M.map (·.x)
def ndsM (M:List Ndm):Nds:=ndsR (ndx M) (fun k=>(M.getD k ⟨zNd,none,0⟩).A) (fun k=>(M.getD k ⟨zNd,none,0⟩).c)
def lksM (M:List Lkm):Lks:=lksR (lkx M) (fun k=>(M.getD k ⟨zLk,none,0⟩).A) (fun k=>(M.getD k ⟨zLk,none,0⟩).c)
def ncm (p:Ndm):List Value:=ncs p.x p.A p.c
def lcm' (p:Lkm):List Value:=lcs p.x p.A p.c
def nc (M:List Ndm):List Value:=M.flatMap ncm
def lc (M:List Lkm):List Value:=M.flatMap lcm'
theorem nc_append (L M:List Ndm):nc (L++M)=nc L++nc M:=by unfold nc;rw [List.flatMap_append]
theorem lc_append (L M:List Lkm):lc (L++M)=lc L++lc M:=by unfold lc;rw [List.flatMap_append]
theorem nc_one (p:Ndm):nc [p]=ncm p:=by simp [nc]
theorem lc_one (p:Lkm):lc [p]=lcm' p:=by simp [lc]
theorem flat_at {α:Type} (f:α→List Value) (n:Nat) (hf:∀a,(f a).length=n):∀(L:List α) (k i:Nat) (a:α),L[k]?=some a→i<n→(L.flatMap f)[k*n+i]?=(f a)[i]?:=by
 intro L
 induction L with
 |nil=>intro k i a h;simp at h
 |cons p L ih=>
  intro k i a h hi
  rw [List.flatMap_cons]
  cases k with
  |zero=>
   simp only [List.getElem?_cons_zero,Option.some.injEq] at h
   subst h
   rw [Nat.zero_mul,Nat.zero_add,List.getElem?_append_left (by rw [hf];exact hi)]
  |succ k=>
   rw [List.getElem?_append_right (by rw [hf,Nat.succ_mul];omega),hf,show (k+1)*n+i - n=k*n+i by rw [Nat.succ_mul];omega]
   exact ih k i a (by simpa using h) hi
theorem ndsM_vals (M:List Ndm) (k:Nat) (h:k<M.length):(ndsM M).vals k=ncm (M.getD k ⟨zNd,none,0⟩):=by
 have e:(ndx M).getD k zNd=(M.getD k ⟨zNd,none,0⟩).x:=by
  unfold ndx
  simp [List.getD,h]
 unfold ndsM Nds.vals ncm ncs ndsR
 simp only [e]
theorem lksM_vals (M:List Lkm) (k:Nat) (h:k<M.length):(lksM M).vals k=lcm' (M.getD k ⟨zLk,none,0⟩):=by
 have e:(lkx M).getD k zLk=(M.getD k ⟨zLk,none,0⟩).x:=by
  unfold lkx
  simp [List.getD,h]
 unfold lksM Lks.vals lcm' lcs lksR
 simp only [e]
def TabsN (B:Nat) (W:World) (rn rl:Option Nat) (M:List Ndm):Prop:=∀p,p∈M→TabIn W p.A p.x.T.length (kX p.x.T) (kY p.x.T)∧(p.x.T.length≠0→∀b off,p.A=some ⟨b,off,none⟩→B≤b∧some b≠rn∧some b≠rl)
def TabsL (B:Nat) (W:World) (rn rl:Option Nat) (M:List Lkm):Prop:=∀p,p∈M→TabIn W p.A p.x.T.length (kX p.x.T) (kY p.x.T)∧(p.x.T.length≠0→∀b off,p.A=some ⟨b,off,none⟩→B≤b∧some b≠rn∧some b≠rl)
theorem TabIn.grown {w w':World} {A:Option Addr} {n:Nat} {F G:Nat→Int} {row:Option Nat} (h:TabIn w A n F G) (hg:w.grownBy w' row) (hA:n≠0→∀b off,A=some ⟨b,off,none⟩→some b≠row):TabIn w' A n F G:=by
 refine ⟨h.1,?_⟩
 by_cases hn:n=0
 ·exact .inl hn
 rcases h.2 with h0 |⟨b,off,hb,h1,h2⟩
 ·exact .inl h0
 ·have hk:=hg.block b h1 (hA hn b off hb)
  exact .inr ⟨b,off,hb,Nat.lt_of_lt_of_le h1 hg.size,fun k hk2=>⟨(World.cell?_of_block hk).trans (h2 k hk2).1,(World.cell?_of_block hk).trans (h2 k hk2).2⟩⟩
theorem TabIn.blk_lt {w:World} {b off n:Nat} {F G:Nat→Int} (h:TabIn w (some ⟨b,off,none⟩) n F G) (hn:n≠0):b<w.heap.size:=by
 rcases h.2 with h0 |⟨b',off',hb,h1,_⟩
 ·exact absurd h0 hn
 ·cases hb;exact h1
structure PaI (w:World) (NM:List Ndm) (LM:List Lkm) (vn vl:Value) (W:World):Prop where
 r0:Blk W w.heap.size 25 #[.slice none 0 0,.slice none 0 0]
 r1:Blk W (w.heap.size+1) 73 #[.int .i64 0,.int .i64 0]
 nt:Blk W (w.heap.size+1+1) 25 #[vn,vl]
 on:W.ownsRow (w.heap.size+3) 55 9 vn NM.length (nc NM)
 ol:W.ownsRow (w.heap.size+3) 64 11 vl LM.length (lc LM)
 tn:TabsN (w.heap.size+3) W vn.ownBlock vl.ownBlock NM
 tl:TabsL (w.heap.size+3) W vn.ownBlock vl.ownBlock LM
 bl:Below w.heap.size w W
theorem PaI.size {w W:World} {NM:List Ndm} {LM:List Lkm} {vn vl:Value} (h:PaI w NM LM vn vl W):w.heap.size+3≤W.heap.size:=h.nt.lt
theorem PaI.call {w W W':World} {NM:List Ndm} {LM:List Lkm} {vn vl:Value} (h:PaI w NM LM vn vl W) (hb:Below W.heap.size W W'):PaI w NM LM vn vl W':=
 ⟨h.r0.call hb,h.r1.call hb,h.nt.call hb,zB7 h.on hb,zB7 h.ol hb,
  fun p hp=>⟨(h.tn p hp).1.below (nl _) hb,(h.tn p hp).2⟩,fun p hp=>⟨(h.tl p hp).1.below (nl _) hb,(h.tl p hp).2⟩,zA1 h.bl hb⟩
theorem own_ne {W:World} {B B' n m s s':Nat} {e e':TypeId} {u v:Value} {xs ys:List Value} (h:W.ownsRow B e s u n xs) (h':W.ownsRow B' e' s' v m ys) (hne:e≠e'):u.ownBlock=none∨u.ownBlock≠v.ownBlock:=by
 rcases h.2 with ⟨rfl,_⟩|⟨g,cap,cur,rfl,hg,hb,_⟩
 ·exact .inl rfl
 ·refine .inr fun e2=>?_
  exact zE2 (t:=e) h' (show Blk W g e cur from hb) (fun e3=>hne e3.symm) e2.symm
theorem PaI.keep {w W w8:World} {NM:List Ndm} {LM:List Lkm} {vn vl v v':Value} {tmp:Obj} {i:Nat} {B0:Nat} (h:PaI w NM LM vn vl W) (hv:v=vn∨v=vl) (hg:(W.alloc tmp).grownBy w8 v.ownBlock) (hat:v'.ownBlock=v.ownBlock∨v'.ownBlock=some (W.heap.size+1)):
 (∀{j:Nat} {t:TypeId} {cs:Array Value},j<w.heap.size+3→Blk W j t cs→Blk w8 j t cs)∧
 (∀{A:Option Addr} {n:Nat} {F G:Nat→Int},TabIn W A n F G→(n≠0→∀b off,A=some ⟨b,off,none⟩→w.heap.size+3≤b∧some b≠vn.ownBlock∧some b≠vl.ownBlock)→TabIn (w8.setCell ⟨w.heap.size+1+1,i,none⟩ v') A n F G∧(n≠0→∀b off,A=some ⟨b,off,none⟩→some b≠v'.ownBlock))∧
 Below w.heap.size w (w8.setCell ⟨w.heap.size+1+1,i,none⟩ v'):=by
 have hsz:=h.size
 have hnb:∀g,v.ownBlock=some g→w.heap.size+3≤g:=fun g e=>by
  rcases hv with rfl |rfl
  ·exact (h.on.lt g e).1
  ·exact (h.ol.lt g e).1
 have hset:=zB5 w8 (w.heap.size+1+1) i v'
 have hal:Below W.heap.size W (W.alloc tmp):=(bR _ W).alloc (nl _) tmp
 refine ⟨fun hj hb=>(hb.alloc tmp).grown hg (fun e=>by have:=hnb _ e.symm;omega),fun {A n F G} ht hA=>⟨?_,?_⟩,?_⟩
 ·refine ((ht.below (nl _) hal).grown hg (fun hn b off e=>?_)).grown hset (fun hn b off e e2=>by have:=Option.some.inj e2;have:=(hA hn b off e).1;omega)
  rcases hv with rfl |rfl
  ·exact (hA hn b off e).2.1
  ·exact (hA hn b off e).2.2
 ·intro hn b off e e2
  rcases hat with h2 |h2
  ·rw [h2] at e2
   rcases hv with rfl |rfl
   ·exact (hA hn b off e).2.1 e2
   ·exact (hA hn b off e).2.2 e2
  ·rw [h2] at e2
   have:=Option.some.inj e2
   rw [e] at ht
   have:=ht.blk_lt hn
   omega
 ·exact (zB9 (h.bl.alloc (by omega) tmp) (by simp;omega) hg (fun g e=>by have:=hnb g e;omega)).setCell (p:=⟨w.heap.size+1+1,i,none⟩) (by show w.heap.size≤w.heap.size+1+1;omega) _
theorem zC5 {w8:World} {B n g i s:Nat} {e:TypeId} {u x:Value} {xs:List Value} (h:w8.ownsRow B e s u n xs) (hg:g<B):(w8.setCell ⟨g,i,none⟩ x).ownsRow B e s u n xs:=by
 refine h.kept (zB5 w8 g i x) ?_
 cases e1:u.ownBlock with
 |none=>exact .inl rfl
 |some g'=>exact .inr fun e2=>by have:=(h.lt g' e1).1;have:=Option.some.inj e2;omega
theorem PaI.nodeApp {w W w8:World} {NM:List Ndm} {LM:List Lkm} {vn vl vn':Value} {p:Ndm} {tmp:Obj} (h:PaI w NM LM vn vl W) (hp:TabIn W p.A p.x.T.length (kX p.x.T) (kY p.x.T)) (hpA:p.x.T.length≠0→∀b off,p.A=some ⟨b,off,none⟩→w.heap.size+3≤b∧some b≠vn.ownBlock∧some b≠vl.ownBlock)
 (hown:w8.ownsRow (w.heap.size+3) 55 9 vn' (NM.length+1) (nc NM++ncm p)) (hg:(W.alloc tmp).grownBy w8 vn.ownBlock) (hat:vn'.ownBlock=vn.ownBlock∨vn'.ownBlock=some (W.heap.size+1)):
 PaI w (NM++[p]) LM vn' vl (w8.setCell ⟨w.heap.size+1+1,0,none⟩ vn'):=by
 obtain ⟨blk,tabs,bl⟩:=h.keep (i:=0) (.inl rfl) hg hat (B0:=0)
 have hal:Below W.heap.size W (W.alloc tmp):=(bR _ W).alloc (nl _) tmp
 refine ⟨(blk (by omega) h.r0).far (by show w.heap.size≠w.heap.size+1+1;omega) _,(blk (by omega) h.r1).far (by show w.heap.size+1≠w.heap.size+1+1;omega) _,(blk (by omega) h.nt).set_ 0 vn',?_,?_,fun q hq=>?_,fun q hq=>?_,bl⟩
 ·rw [nc_append,nc_one,List.length_append]
  exact zC5 hown (by omega)
 ·refine zC5 ((zB7 h.ol hal).kept hg ?_) (by omega)
  rcases own_ne h.ol h.on (by decide) with h1 |h1
  ·exact .inl h1
  ·exact .inr h1
 ·have key:TabIn W q.A q.x.T.length (kX q.x.T) (kY q.x.T)∧(q.x.T.length≠0→∀b off,q.A=some ⟨b,off,none⟩→w.heap.size+3≤b∧some b≠vn.ownBlock∧some b≠vl.ownBlock):=by
   rcases List.mem_append.1 hq with hq |hq
   ·exact h.tn q hq
   ·rw [List.mem_singleton.1 hq];exact ⟨hp,hpA⟩
  obtain ⟨t1,t2⟩:=tabs key.1 key.2
  exact ⟨t1,fun hn b off e=>⟨(key.2 hn b off e).1,t2 hn b off e,(key.2 hn b off e).2.2⟩⟩
 ·have key:=h.tl q hq
  obtain ⟨t1,t2⟩:=tabs key.1 key.2
  exact ⟨t1,fun hn b off e=>⟨(key.2 hn b off e).1,t2 hn b off e,(key.2 hn b off e).2.2⟩⟩
theorem PaI.linkApp {w W w8:World} {NM:List Ndm} {LM:List Lkm} {vn vl vl':Value} {p:Lkm} {tmp:Obj} (h:PaI w NM LM vn vl W) (hp:TabIn W p.A p.x.T.length (kX p.x.T) (kY p.x.T)) (hpA:p.x.T.length≠0→∀b off,p.A=some ⟨b,off,none⟩→w.heap.size+3≤b∧some b≠vn.ownBlock∧some b≠vl.ownBlock)
 (hown:w8.ownsRow (w.heap.size+3) 64 11 vl' (LM.length+1) (lc LM++lcm' p)) (hg:(W.alloc tmp).grownBy w8 vl.ownBlock) (hat:vl'.ownBlock=vl.ownBlock∨vl'.ownBlock=some (W.heap.size+1)):
 PaI w NM (LM++[p]) vn vl' (w8.setCell ⟨w.heap.size+1+1,1,none⟩ vl'):=by
 obtain ⟨blk,tabs,bl⟩:=h.keep (i:=1) (.inr rfl) hg hat (B0:=0)
 have hal:Below W.heap.size W (W.alloc tmp):=(bR _ W).alloc (nl _) tmp
 refine ⟨(blk (by omega) h.r0).far (by show w.heap.size≠w.heap.size+1+1;omega) _,(blk (by omega) h.r1).far (by show w.heap.size+1≠w.heap.size+1+1;omega) _,(blk (by omega) h.nt).set_ 1 vl',?_,?_,fun q hq=>?_,fun q hq=>?_,bl⟩
 ·refine zC5 ((zB7 h.on hal).kept hg ?_) (by omega)
  rcases own_ne h.on h.ol (by decide) with h1 |h1
  ·exact .inl h1
  ·exact .inr h1
 ·rw [lc_append,lc_one,List.length_append]
  exact zC5 hown (by omega)
 ·have key:=h.tn q hq
  obtain ⟨t1,t2⟩:=tabs key.1 key.2
  exact ⟨t1,fun hn b off e=>⟨(key.2 hn b off e).1,(key.2 hn b off e).2.1,t2 hn b off e⟩⟩
 ·have key:TabIn W q.A q.x.T.length (kX q.x.T) (kY q.x.T)∧(q.x.T.length≠0→∀b off,q.A=some ⟨b,off,none⟩→w.heap.size+3≤b∧some b≠vn.ownBlock∧some b≠vl.ownBlock):=by
   rcases List.mem_append.1 hq with hq |hq
   ·exact h.tl q hq
   ·rw [List.mem_singleton.1 hq];exact ⟨hp,hpA⟩
  obtain ⟨t1,t2⟩:=tabs key.1 key.2
  exact ⟨t1,fun hn b off e=>⟨(key.2 hn b off e).1,(key.2 hn b off e).2.1,t2 hn b off e⟩⟩
theorem nodes_of {W:World} {B:Nat} {NM:List Ndm} {rn rl:Option Nat} {A:Option Addr} {n c:Nat} (hon:W.ownsRow B 55 9 (.slice A n c) NM.length (nc NM)) (htn:TabsN B W rn rl NM) (hb:NM.length≤300000):n=NM.length∧NdIn W A NM.length (ndsM NM):=by
 rcases hon.2 with ⟨hv,h0⟩|⟨g,cap,cur,hv,hg,hbk,hnc,hcm,hs,ht⟩
 ·cases hv
  exact ⟨h0.symm,by omega,.inl h0⟩
 ·cases hv
  refine ⟨rfl,by omega,?_⟩
  refine .inr ⟨g,0,rfl,(hon.lt g rfl).2,fun k hk=>⟨fun i v hi=>?_,?_⟩⟩
  ·rw [ndsM_vals NM k hk] at hi
   have hi9:i<9:=(List.getElem?_eq_some_iff.1 hi).1
   have hk9:k*9+9≤NM.length*9:=by rw [←Nat.succ_mul];exact Nat.mul_le_mul_right 9 hk
   rw [Nat.zero_add,hon.cellAt (k*9+i) (by omega)]
   have hk2:NM[k]?=some (NM.getD k ⟨zNd,none,0⟩):=by simp [List.getD,hk]
   rw [←hi]
   exact flat_at ncm 9 (fun _=>rfl) NM k i _ hk2 hi9
  ·have hk2:NM[k]?=some (NM.getD k ⟨zNd,none,0⟩):=by simp [List.getD,hk]
   have:=(htn _ (List.mem_of_getElem? hk2)).1
   have e:(ndx NM).getD k zNd=(NM.getD k ⟨zNd,none,0⟩).x:=by unfold ndx;simp [List.getD,hk]
   show TabIn W _ (((ndx NM).getD k zNd).T.length) (kX ((ndx NM).getD k zNd).T) (kY ((ndx NM).getD k zNd).T)
   rw [e]
   exact this
theorem links_of {W:World} {B:Nat} {LM:List Lkm} {rn rl:Option Nat} {A:Option Addr} {n c:Nat} (hol:W.ownsRow B 64 11 (.slice A n c) LM.length (lc LM)) (htl:TabsL B W rn rl LM) (hb:LM.length≤300000):n=LM.length∧LkIn W A LM.length (lksM LM):=by
 rcases hol.2 with ⟨hv,h0⟩|⟨g,cap,cur,hv,hg,hbk,hnc,hcm,hs,ht⟩
 ·cases hv
  exact ⟨h0.symm,by omega,.inl h0⟩
 ·cases hv
  refine ⟨rfl,by omega,?_⟩
  refine .inr ⟨g,0,rfl,(hol.lt g rfl).2,fun k hk=>⟨fun i v hi=>?_,?_⟩⟩
  ·rw [lksM_vals LM k hk] at hi
   have hi9:i<11:=(List.getElem?_eq_some_iff.1 hi).1
   have hk11:k*11+11≤LM.length*11:=by rw [←Nat.succ_mul];exact Nat.mul_le_mul_right 11 hk
   rw [Nat.zero_add,hol.cellAt (k*11+i) (by omega)]
   have hk2:LM[k]?=some (LM.getD k ⟨zLk,none,0⟩):=by simp [List.getD,hk]
   rw [←hi]
   exact flat_at lcm' 11 (fun _=>rfl) LM k i _ hk2 hi9
  ·have hk2:LM[k]?=some (LM.getD k ⟨zLk,none,0⟩):=by simp [List.getD,hk]
   have:=(htl _ (List.mem_of_getElem? hk2)).1
   have e:(lkx LM).getD k zLk=(LM.getD k ⟨zLk,none,0⟩).x:=by unfold lkx;simp [List.getD,hk]
   show TabIn W _ (((lkx LM).getD k zLk).T.length) (kX ((lkx LM).getD k zLk).T) (kY ((lkx LM).getD k zLk).T)
   rw [e]
   exact this
theorem PaI.nodes {w W:World} {NM:List Ndm} {LM:List Lkm} {vl:Value} {A:Option Addr} {n c:Nat} (h:PaI w NM LM (.slice A n c) vl W) (hb:NM.length≤300000):n=NM.length∧NdIn W A NM.length (ndsM NM):=nodes_of h.on h.tn hb
theorem PaI.links {w W:World} {NM:List Ndm} {LM:List Lkm} {vn:Value} {A:Option Addr} {n c:Nat} (h:PaI w NM LM vn (.slice A n c) W) (hb:LM.length≤300000):n=LM.length∧LkIn W A LM.length (lksM LM):=links_of h.ol h.tl hb
def st4 (W:World) (R:Nat) (a b c d:Value):World:=(((W.setCell ⟨R,0,none⟩ a).setCell ⟨R,1,none⟩ b).setCell ⟨R+1,0,none⟩ c).setCell ⟨R+1,1,none⟩ d
theorem PaI.out {w W:World} {NM:List Ndm} {LM:List Lkm} {vn vl:Value} (h:PaI w NM LM vn vl W) (a b c d:Value):
 Blk (st4 W w.heap.size a b c d) w.heap.size 25 #[a,b]∧Blk (st4 W w.heap.size a b c d) (w.heap.size+1) 73 #[c,d]∧Below w.heap.size w (st4 W w.heap.size a b c d)∧
 (st4 W w.heap.size a b c d).ownsRow (w.heap.size+3) 55 9 vn NM.length (nc NM)∧(st4 W w.heap.size a b c d).ownsRow (w.heap.size+3) 64 11 vl LM.length (lc LM)∧
 TabsN (w.heap.size+3) (st4 W w.heap.size a b c d) vn.ownBlock vl.ownBlock NM∧TabsL (w.heap.size+3) (st4 W w.heap.size a b c d) vn.ownBlock vl.ownBlock LM:=by
 have tabs:∀{A:Option Addr} {n:Nat} {F G:Nat→Int},TabIn W A n F G→(n≠0→∀b off,A=some ⟨b,off,none⟩→w.heap.size+3≤b)→TabIn (st4 W w.heap.size a b c d) A n F G:=fun {A n F G} ht hA=>by
  have k:∀r,r<w.heap.size+3→n≠0→∀b off,A=some ⟨b,off,none⟩→some b≠some r:=fun r hr hn b off e e2=>by have:=hA hn b off e;have:=Option.some.inj e2;omega
  exact ((((ht.grown (zB5 _ _ 0 a) (k _ (by omega))).grown (zB5 _ _ 1 b) (k _ (by omega))).grown (zB5 _ _ 0 c) (k _ (by omega))).grown (zB5 _ _ 1 d) (k _ (by omega)))
 unfold st4 at*
 refine ⟨(((h.r0.set_ 0 a).set_ 1 b).far (by show w.heap.size≠w.heap.size+1;omega) c).far (by show w.heap.size≠w.heap.size+1;omega) d,(((h.r1.far (by show w.heap.size+1≠w.heap.size;omega) a).far (by show w.heap.size+1≠w.heap.size;omega) b).set_ 0 c).set_ 1 d,?_,?_,?_,fun q hq=>⟨tabs (h.tn q hq).1 (fun hn b off e=>((h.tn q hq).2 hn b off e).1),(h.tn q hq).2⟩,fun q hq=>⟨tabs (h.tl q hq).1 (fun hn b off e=>((h.tl q hq).2 hn b off e).1),(h.tl q hq).2⟩⟩
 ·exact (((h.bl.setCell (p:=⟨w.heap.size,0,none⟩) (nl _) a).setCell (p:=⟨w.heap.size,1,none⟩) (nl _) b).setCell (p:=⟨w.heap.size+1,0,none⟩) (by show w.heap.size≤w.heap.size+1;omega) c).setCell (p:=⟨w.heap.size+1,1,none⟩) (by show w.heap.size≤w.heap.size+1;omega) d
 ·exact zC5 (zC5 (zC5 (zC5 h.on (by omega)) (by omega)) (by omega)) (by omega)
 ·exact zC5 (zC5 (zC5 (zC5 h.ol (by omega)) (by omega)) (by omega)) (by omega)
structure PaE (w W:World):Prop where
 r0:Blk W w.heap.size 25 #[.slice none 0 0,.slice none 0 0]
 r1:Blk W (w.heap.size+1) 73 #[.int .i64 0,.int .i64 0]
 bl:Below w.heap.size w W
theorem PaI.err {w W:World} {NM:List Ndm} {LM:List Lkm} {vn vl:Value} (h:PaI w NM LM vn vl W):PaE w W:=⟨h.r0,h.r1,h.bl⟩
theorem PaE.set {w W:World} {g i:Nat} (h:PaE w W) (hg:w.heap.size+2≤g) (u:Value):PaE w (W.setCell ⟨g,i,none⟩ u):=
 ⟨h.r0.far (by show w.heap.size≠g;omega) u,h.r1.far (by show w.heap.size+1≠g;omega) u,h.bl.setCell (p:=⟨g,i,none⟩) (by show w.heap.size≤g;omega) u⟩
theorem PaE.out {w W:World} (h:PaE w W) (a b c d:Value):
 Blk (st4 W w.heap.size a b c d) w.heap.size 25 #[a,b]∧Blk (st4 W w.heap.size a b c d) (w.heap.size+1) 73 #[c,d]∧Below w.heap.size w (st4 W w.heap.size a b c d):=by
 unfold st4
 refine ⟨(((h.r0.set_ 0 a).set_ 1 b).far (by show w.heap.size≠w.heap.size+1;omega) c).far (by show w.heap.size≠w.heap.size+1;omega) d,(((h.r1.far (by show w.heap.size+1≠w.heap.size;omega) a).far (by show w.heap.size+1≠w.heap.size;omega) b).set_ 0 c).set_ 1 d,?_⟩
 exact (((h.bl.setCell (p:=⟨w.heap.size,0,none⟩) (nl _) a).setCell (p:=⟨w.heap.size,1,none⟩) (nl _) b).setCell (p:=⟨w.heap.size+1,0,none⟩) (by show w.heap.size≤w.heap.size+1;omega) c).setCell (p:=⟨w.heap.size+1,1,none⟩) (by show w.heap.size≤w.heap.size+1;omega) d
theorem PaI.setg {w W:World} {NM:List Ndm} {LM:List Lkm} {vn vl:Value} {g i:Nat} {cs:Array Value} (h:PaI w NM LM vn vl W) (hb:Blk W g 103 cs) (hg:w.heap.size+3≤g) (h1:∀q,q∈NM→q.x.T.length≠0→∀b off,q.A=some ⟨b,off,none⟩→b≠g) (h2:∀q,q∈LM→q.x.T.length≠0→∀b off,q.A=some ⟨b,off,none⟩→b≠g) (u:Value):PaI w NM LM vn vl (W.setCell ⟨g,i,none⟩ u):=by
 have hs:=zB5 W g i u
 refine ⟨h.r0.far (by show w.heap.size≠g;omega) u,h.r1.far (by show w.heap.size+1≠g;omega) u,h.nt.far (by show w.heap.size+1+1≠g;omega) u,h.on.kept hs (.inr (zE2 h.on hb (by decide))),h.ol.kept hs (.inr (zE2 h.ol hb (by decide))),fun q hq=>⟨(h.tn q hq).1.grown hs (fun hn b off e e2=>h1 q hq hn b off e (Option.some.inj e2)),(h.tn q hq).2⟩,fun q hq=>⟨(h.tl q hq).1.grown hs (fun hn b off e e2=>h2 q hq hn b off e (Option.some.inj e2)),(h.tl q hq).2⟩,h.bl.setCell (p:=⟨g,i,none⟩) (by show w.heap.size≤g;omega) u⟩
theorem PaI.old {w W:World} {NM:List Ndm} {LM:List Lkm} {vn vl:Value} {g:Nat} (h:PaI w NM LM vn vl W) (hg:W.heap.size≤g):(∀q,q∈NM→q.x.T.length≠0→∀b off,q.A=some ⟨b,off,none⟩→b≠g)∧∀q,q∈LM→q.x.T.length≠0→∀b off,q.A=some ⟨b,off,none⟩→b≠g:=by
 refine ⟨fun q hq hn b off e=>?_,fun q hq hn b off e=>?_⟩
 ·have:=(h.tn q hq).1
  rw [e] at this
  have:=this.blk_lt hn;omega
 ·have:=(h.tl q hq).1
  rw [e] at this
  have:=this.blk_lt hn;omega
theorem cut_line (s:ByteArray) (hs:s.data.toList≠[]):
 (cutF s 10=true∧s.data.toList=(cutA s 10).data.toList++10::(cutB s 10).data.toList∧(10:UInt8)∉(cutA s 10).data.toList∧rln s.data.toList=((cutA s 10).data.toList++[10])::rln (cutB s 10).data.toList)∨
 (cutF s 10=false∧cutA s 10=s∧cutB s 10=⟨#[]⟩∧(10:UInt8)∉s.data.toList∧rln s.data.toList=[s.data.toList]):=by
 rcases zG3 s.data.toList 10 with ⟨h1,e⟩|⟨a,b,e1,e2,e3⟩
 ·right
  unfold cutF cutA cutB
  rw [if_pos e,if_pos e,if_pos e]
  exact ⟨rfl,rfl,rfl,h1,rln_one h1 hs⟩
 ·left
  have hne:¬Lib.indexByte s.data.toList 10= -1:=by omega
  have hs2:s=⟨(a++10::b).toArray⟩:=by rw [←e1]
  have hc:=cut_at (a:=a) (b:=b) (c:=10) e2
  rw [←hs2] at hc
  have hF:cutF s 10=true:=by unfold cutF;rw [if_neg hne]
  refine ⟨hF,?_,?_,?_⟩
  ·rw [hc.1,hc.2,e1]
  ·rw [hc.1];exact e2
  ·rw [hc.1,hc.2,e1];exact rln_cut b e2
def zI6 (l:List UInt8) (e:Bool):List UInt8:=if e then l++[10] else l
theorem not_ended {N:List Ndr} {L:List Lkr} {l:List UInt8} (h:(10:UInt8)∉l):Stuck N L l:=by
 rintro N' L' (⟨l',z,e,_⟩|⟨l',y,e,_⟩)<;> exact h (by rw [e];simp)
theorem ndK_vals (x:Ndr):ndK x=zG4∨ndK x=kTank∨ndK x=zG5:=by
 unfold ndK
 repeat' split
 all_goals simp
theorem lkK_vals (x:Lkr):lkK x=kPipe∨lkK x=zL9∨lkK x=kGate∨lkK x=kPump:=by
 unfold lkK
 repeat' split
 all_goals simp
theorem ndK_ne_lkK (x:Ndr) (y:Lkr):ndK x≠lkK y:=by
 rcases ndK_vals x with h |h |h<;> rcases lkK_vals y with h' |h' |h' |h'<;> rw [h,h']<;> decide
theorem line_node {N:List Ndr} {L:List Lkr} {l:List UInt8} {kd:Int} {W W':List ByteArray} {o o':Bool} {x:Ndr} (hR:NodeR kd W o x W' o') (hl:wds l=ndK x::lm W) (hw:∀b,b∈W→(32:UInt8)∉b.data.toList∧(10:UInt8)∉b.data.toList) (h10:(10:UInt8)∉l):
 (o'=true→L=[]→W'=[]→o=true∧IsNd l x∧Stp N L (zI6 l o) (N++[x]) [])∧(¬(o'=true∧L=[]∧W'=[])→Stuck N L (zI6 l o)):=by
 refine ⟨fun h1 h2 h3=>?_,fun hn=>?_⟩
 ·obtain ⟨a,b⟩:=hR.good hl hw h1 h3
  refine ⟨a,b,?_⟩
  unfold zI6
  rw [if_pos a]
  exact .inl ⟨l,x,rfl,b,h2,rfl,rfl⟩
 ·cases ho:o with
  |false=>exact not_ended h10
  |true=>
   unfold zI6
   rw [if_pos rfl]
   rintro N' L' (⟨l',z,e,hz,hL,_⟩|⟨l',y,e,hy,_⟩)
   ·have:=List.append_cancel_right e
    subst this
    obtain ⟨a,b⟩:=hR.bad hl hz
    exact hn ⟨by rw [a,ho],hL,b⟩
   ·have:=List.append_cancel_right e
    subst this
    have e2:=hy.2
    rw [hl] at e2
    simp only [List.cons.injEq] at e2
    exact ndK_ne_lkK x y e2.1
theorem line_link {N:List Ndr} {L:List Lkr} {l:List UInt8} {kd:Int} {W W':List ByteArray} {o o':Bool} {x:Lkr} (hR:LinkR kd W o x W' o') (hl:wds l=lkK x::lm W) (hw:∀b,b∈W→(32:UInt8)∉b.data.toList∧(10:UInt8)∉b.data.toList) (h10:(10:UInt8)∉l):
 (o'=true→W'=[]→o=true∧IsLk l x∧Stp N L (zI6 l o) N (L++[x]))∧(¬(o'=true∧W'=[])→Stuck N L (zI6 l o)):=by
 refine ⟨fun h1 h3=>?_,fun hn=>?_⟩
 ·obtain ⟨a,b⟩:=hR.good hl hw h1 h3
  refine ⟨a,b,?_⟩
  unfold zI6
  rw [if_pos a]
  exact .inr ⟨l,x,rfl,b,rfl,rfl⟩
 ·cases ho:o with
  |false=>exact not_ended h10
  |true=>
   unfold zI6
   rw [if_pos rfl]
   rintro N' L' (⟨l',z,e,hz,hL,_⟩|⟨l',y,e,hy,_⟩)
   ·have:=List.append_cancel_right e
    subst this
    have e2:=hz.2
    rw [hl] at e2
    simp only [List.cons.injEq] at e2
    exact ndK_ne_lkK z x e2.1.symm
   ·have:=List.append_cancel_right e
    subst this
    obtain ⟨a,b⟩:=hR.bad hl hy
    exact hn ⟨by rw [a,ho],b⟩
theorem line_other {N:List Ndr} {L:List Lkr} {l k:List UInt8} {r:List (List UInt8)} {o:Bool} (hl:wds l=k::r) (hk:k≠zG5∧k≠kTank∧k≠zG4∧k≠kPipe∧k≠zL9∧k≠kGate∧k≠kPump) (h10:(10:UInt8)∉l):Stuck N L (zI6 l o):=by
 obtain ⟨k1,k2,k3,k4,k5,k6,k7⟩:=hk
 cases o with
 |false=>exact not_ended h10
 |true=>
  unfold zI6
  rw [if_pos rfl]
  rintro N' L' (⟨l',z,e,hz,hL,_⟩|⟨l',y,e,hy,_⟩)
  ·have:=List.append_cancel_right e
   subst this
   have e2:=hz.2
   rw [hl] at e2
   simp only [List.cons.injEq] at e2
   rcases ndK_vals z with h |h |h<;> rw [h] at e2
   ·exact k3 e2.1
   ·exact k2 e2.1
   ·exact k1 e2.1
  ·have:=List.append_cancel_right e
   subst this
   have e2:=hy.2
   rw [hl] at e2
   simp only [List.cons.injEq] at e2
   rcases lkK_vals y with h |h |h |h<;> rw [h] at e2
   ·exact k4 e2.1
   ·exact k5 e2.1
   ·exact k6 e2.1
   ·exact k7 e2.1
theorem wds_mem {l x:List UInt8} {c:UInt8} (h:x∈wds l) (hc:c∈x):c∈l:=by
 induction l generalizing x with
 |nil=>simp [wds] at h;rw [h] at hc;exact absurd hc (by simp)
 |cons d r ih=>
  unfold wds at h
  by_cases hd:d=32
  ·rw [if_pos hd] at h
   rcases List.mem_cons.1 h with h |h
   ·rw [h] at hc;exact absurd hc (by simp)
   ·exact List.mem_cons_of_mem _ (ih h hc)
  ·rw [if_neg hd] at h
   cases e:wds r with
   |nil=>exact absurd e (zH0 r)
   |cons a t=>
    rw [e] at h ih
    rcases List.mem_cons.1 h with h |h
    ·rw [h] at hc
     rcases List.mem_cons.1 hc with hc |hc
     ·rw [hc];simp
     ·exact List.mem_cons_of_mem _ (ih (by simp) hc)
    ·exact List.mem_cons_of_mem _ (ih (by simp [h]) hc)
theorem wds_no32 {l x:List UInt8} (h:x∈wds l):(32:UInt8)∉x:=by
 induction l generalizing x with
 |nil=>simp [wds] at h;rw [h];simp
 |cons d r ih=>
  unfold wds at h
  by_cases hd:d=32
  ·rw [if_pos hd] at h
   rcases List.mem_cons.1 h with h |h
   ·rw [h];simp
   ·exact ih h
  ·rw [if_neg hd] at h
   cases e:wds r with
   |nil=>exact absurd e (zH0 r)
   |cons a t=>
    rw [e] at h ih
    rcases List.mem_cons.1 h with h |h
    ·rw [h]
     intro hc
     rcases List.mem_cons.1 hc with hc |hc
     ·exact hd hc.symm
     ·exact ih (by simp) hc
    ·exact ih (by simp [h])
theorem zJ0 (s:ByteArray):lm (zC2 s)=wds s.data.toList:=by
 unfold lm zC2
 rw [List.map_map]
 conv=>rhs;rw [←List.map_id (wds s.data.toList)]
 apply List.map_congr_left
 intro a _
 simp
theorem words_ok {s b:ByteArray} (h:b∈zC2 s) (h10:(10:UInt8)∉s.data.toList):(32:UInt8)∉b.data.toList∧(10:UInt8)∉b.data.toList:=by
 have hm:b.data.toList∈wds s.data.toList:=by
  rw [←zJ0]
  exact List.mem_map.2 ⟨b,h,rfl⟩
 exact ⟨wds_no32 hm,fun hc=>h10 (wds_mem hm hc)⟩
theorem Runs.len {N N':List Ndr} {L L':List Lkr} {ls:List (List UInt8)} (h:Runs N L ls N' L'):N'.length+L'.length=N.length+L.length+ls.length:=by
 induction h with
 |nil=>rfl
 |cons h1 _ ih=>
  rw [ih]
  rcases h1 with ⟨l,z,_,_,a,b,c⟩|⟨l,y,_,_,a,b⟩
  ·subst a b c;simp;omega
  ·subst a b;simp;omega
theorem rln_len (l:List UInt8):(rln l).length≤l.length:=by
 induction l with
 |nil=>simp [rln]
 |cons c r ih=>
  unfold rln
  split
  ·simp;omega
  ·cases e:rln r with
   |nil=>simp
   |cons h t=>rw [e] at ih;simp at ih⊢;omega
theorem nd_size {l:List UInt8} {x:Ndr} (h:IsNd l x):x.nm.size≤l.length:=by
 have:=zI4 (l:=l) (x:=x.nm.data.toList) (by rw [h.2];unfold ndW;simp)
 rwa [zD8] at this
theorem lk_size {l:List UInt8} {x:Lkr} (h:IsLk l x):x.nm.size≤l.length∧x.fr.size≤l.length∧x.tn.size≤l.length∧x.sc.size≤l.length∧x.T.length≤100:=by
 have h1:=zI4 (l:=l) (x:=x.nm.data.toList) (by rw [h.2];unfold lkW;simp)
 have h2:=zI4 (l:=l) (x:=x.fr.data.toList) (by rw [h.2];unfold lkW;simp)
 have h3:=zI4 (l:=l) (x:=x.tn.data.toList) (by rw [h.2];unfold lkW;simp)
 rw [zD8] at h1 h2 h3
 refine ⟨h1,h2,h3,?_,?_⟩
 ·rcases h.1.kd with ⟨hk,_⟩|⟨_,_,_,e,_⟩|⟨_,_,_,e,_⟩|⟨_,_,_,e,_⟩
  ·have h4:=zI4 (l:=l) (x:=x.sc.data.toList) (by rw [h.2];unfold lkW;rw [if_pos hk];simp)
   rwa [zD8] at h4
  all_goals rw [e];exact Nat.zero_le _
 ·rcases h.1.kd with ⟨_,_,_,_,_,_,e⟩|⟨_,_,_,_,_,_,e⟩|⟨_,_,_,_,_,_,e⟩|⟨_,_,_,_,_,_,e⟩
  ·rw [e];simp
  ·rw [e];simp
  ·rw [e];simp
  ·have:=e.2.1;omega
theorem nd_turn {s t l rest:List UInt8} {ls:List (List UInt8)} {NM:List Ndm} {LM:List Lkm} {W1 W2:List ByteArray} {o1 o2 ended:Bool} {x:Ndr} {k:Nat} {kd:Int} (hs:s.length≤262144) (hk:k=ls.length+1) (hr:rln s=ls++rln t) (hR:Runs [] [] ls (ndx NM) (lkx LM)) (hc:rln t=zI6 l ended::(if ended then rln rest else [])) (hN:NodeR kd W1 o1 x W2 o2) (ho:o1=ended) (hl:wds l=ndK x::lm W1) (hw:∀b,b∈W1→(32:UInt8)∉b.data.toList∧(10:UInt8)∉b.data.toList) (h10:(10:UInt8)∉l):
 (¬(o2=true∧LM.length=0∧W2=[])→NtIs netV s [] [] k 7)∧(o2=true→LM.length=0→W2=[]→x.nm.size≤l.length∧rln s=(ls++[zI6 l ended])++rln rest∧LM=[]∧∀A c,Runs [] [] (ls++[zI6 l ended]) (ndx (NM++[⟨x,A,c⟩])) (lkx LM)):=by
 subst ho
 obtain ⟨g,b⟩:=line_node (N:=ndx NM) (L:=lkx LM) hN hl hw h10
 have hL:lkx LM=[]↔LM.length=0:=by unfold lkx;rw [List.map_eq_nil_iff,List.length_eq_zero_iff]
 refine ⟨fun h=>.form _ _ ls _ _ k hs hR (by rw [hr,hc]) (b (fun h2=>h ⟨h2.1,hL.1 h2.2.1,h2.2.2⟩)) hk,fun h1 h2 h3=>?_⟩
 obtain ⟨a1,a2,a3⟩:=g h1 (hL.2 h2) h3
 have hLM:LM=[]:=List.length_eq_zero_iff.1 h2
 refine ⟨nd_size a2,by rw [hr,hc,a1];simp,hLM,fun A c=>?_⟩
 have e1:ndx (NM++[⟨x,A,c⟩])=ndx NM++[x]:=by unfold ndx;simp
 rw [e1,hL.2 h2]
 exact hR.snoc a3
theorem lk_turn {s t l rest:List UInt8} {ls:List (List UInt8)} {NM:List Ndm} {LM:List Lkm} {W1 W2:List ByteArray} {o1 o2 ended:Bool} {x:Lkr} {k:Nat} {kd:Int} (hs:s.length≤262144) (hk:k=ls.length+1) (hr:rln s=ls++rln t) (hR:Runs [] [] ls (ndx NM) (lkx LM)) (hc:rln t=zI6 l ended::(if ended then rln rest else [])) (hN:LinkR kd W1 o1 x W2 o2) (ho:o1=ended) (hl:wds l=lkK x::lm W1) (hw:∀b,b∈W1→(32:UInt8)∉b.data.toList∧(10:UInt8)∉b.data.toList) (h10:(10:UInt8)∉l):
 (¬(o2=true∧W2=[])→NtIs netV s [] [] k 7)∧(o2=true→W2=[]→IsLk l x∧rln s=(ls++[zI6 l ended])++rln rest∧∀A c,Runs [] [] (ls++[zI6 l ended]) (ndx NM) (lkx (LM++[⟨x,A,c⟩]))):=by
 subst ho
 obtain ⟨g,b⟩:=line_link (N:=ndx NM) (L:=lkx LM) hN hl hw h10
 refine ⟨fun h=>.form _ _ ls _ _ k hs hR (by rw [hr,hc]) (b h) hk,fun h1 h3=>?_⟩
 obtain ⟨a1,a2,a3⟩:=g h1 h3
 refine ⟨a2,by rw [hr,hc,a1];simp,fun A c=>?_⟩
 have e1:lkx (LM++[⟨x,A,c⟩])=lkx LM++[x]:=by unfold lkx;simp
 rw [e1]
 exact hR.snoc a3
theorem ot_turn {s t l rest:List UInt8} {ls:List (List UInt8)} {NM:List Ndm} {LM:List Lkm} {k0:List UInt8} {r0:List (List UInt8)} {ended:Bool} {k:Nat} (hs:s.length≤262144) (hk:k=ls.length+1) (hr:rln s=ls++rln t) (hR:Runs [] [] ls (ndx NM) (lkx LM)) (hc:rln t=zI6 l ended::(if ended then rln rest else [])) (hl:wds l=k0::r0) (hn:k0≠zG5∧k0≠kTank∧k0≠zG4∧k0≠kPipe∧k0≠zL9∧k0≠kGate∧k0≠kPump) (h10:(10:UInt8)∉l):
 NtIs netV s [] [] k 7:=.form _ _ ls _ _ k hs hR (by rw [hr,hc]) (line_other hl hn h10) hk
end Go.Proofs.YtghefgifhebniaaGreatDoor

/- Merged texts of these proofs: NRd, NRe, NRf, NRg, NPp, NPq. -/
import Derived.Test.YtchakniaoeodmaaGreatDoorMgI
import Derived.Test.YtchakniaoeodmaaGreatDoorMgN
import Derived.Lib.Join
namespace Go.Proofs.YtchakniaoeodmaaGreatDoor
open Go.RowKit
set_option linter.unusedVariables false
set_option linter.unnecessarySimpa false
set_option linter.unusedSimpArgs false
def joinL (L:List (List UInt8)):List UInt8:=Lib.join L [32]
def WdAt (w:World) (g:Nat) (v:Value) (W:List ByteArray):Prop:=∃A c,v= .slice A W.length c∧W.length≤c∧W.length≤300001∧(joinL (lm W)).length≤300000∧(W=[]∨∃b off,A=some ⟨b,off,none⟩∧b<w.heap.size∧b<g∧∀k,k<W.length→w.cell? ⟨b,off+k,none⟩=some (.string (W.getD k ByteArray.empty)))
def RdAt (w:World) (g:Nat) (W:List ByteArray) (o:Bool):Prop:=∃v,Blk w g 167 #[v,.bool o]∧WdAt w g v W
theorem WdAt.moved {w w':World} {g:Nat} {v:Value} {W:List ByteArray} (h:WdAt w g v W) (hg:w.grownBy w' (some g)):WdAt w' g v W:=by
 obtain ⟨A,c,h1,h2,h3,h4,h5⟩:=h
 refine ⟨A,c,h1,h2,h3,h4,?_⟩
 rcases h5 with h5 |⟨b,off,h5,h6,h7,h8⟩
 ·exact .inl h5
 ·exact .inr ⟨b,off,h5,Nat.lt_of_lt_of_le h6 hg.size,h7,fun k hk=>(hg.cell_far ⟨b,off+k,none⟩ h6 (fun e=>by have e2:b=g:=Option.some.inj e;omega)).trans (h8 k hk)⟩
theorem RdAt.call {w w':World} {g:Nat} {W:List ByteArray} {o:Bool} (h:RdAt w g W o) (hb:Below w.heap.size w w'):RdAt w' g W o:=by
 obtain ⟨v,h1,h2⟩:=h
 exact ⟨v,h1.call hb,h2.moved (zK1 hb _)⟩
theorem RdAt.lt {w:World} {g:Nat} {W:List ByteArray} {o:Bool} (h:RdAt w g W o):g<w.heap.size:=by obtain ⟨v,h1,_⟩:=h;exact h1.lt
theorem RdAt.set {w:World} {g X:Nat} {W:List ByteArray} {o:Bool} (h:RdAt w g W o) (hX:g<X) (i:Nat) (u:Value):RdAt (w.setCell ⟨X,i,none⟩ u) g W o:=by
 obtain ⟨v,h1,A,c,h2,h3,h4,h5,h6⟩:=h
 refine ⟨v,h1.far (by show g≠X;omega) u,A,c,h2,h3,h4,h5,?_⟩
 rcases h6 with h6 |⟨b,off,h6,h7,h8,h9⟩
 ·exact .inl h6
 ·exact .inr ⟨b,off,h6,by simp [World.setCell];exact h7,h8,fun k hk=>(World.cell?_of_block (Below.heap_setCell w ⟨X,i,none⟩ u b (by show b≠X;omega))).trans (h9 k hk)⟩
theorem RdAt.size {w:World} {g:Nat} {W:List ByteArray} {o:Bool} (h:RdAt w g W o):(joinL (lm W)).length≤300000:=by
 obtain ⟨v,_,A,c,_,_,_,h5,_⟩:=h
 exact h5
theorem WordR.sub {W W':List ByteArray} {o o':Bool} {s:ByteArray} (h:WordR W o s W' o'):∀x,x∈W'→x∈W:=fun x hx=>by
 rcases h with ⟨a,_,_⟩|⟨_,a,_⟩
 ·rw [a];simp [hx]
 ·rw [a] at hx;exact hx
def ncs (x:Ndr) (A:Option Addr) (c:Nat):List Value:=[.string x.nm,.int .i64 x.kd,.int .i64 x.ax,.int .i64 x.ay,.int .i64 x.iv,.int .i64 x.gd,.slice A x.T.length c,.bool x.pt,.int .i64 x.rs]
structure NdM (w:World) (g R X:Nat) (cs:Array Value) (W:List ByteArray) (o:Bool) (wr:World):Prop where
 x:Blk wr X 30 cs
 r:Blk wr R 30 #[.string ⟨#[]⟩,.int .i64 0,.int .i64 0,.int .i64 0,.int .i64 0,.int .i64 0,.slice none 0 0,.bool false,.int .i64 0]
 rd:RdAt wr g W o
 gr:w.grownBy wr (some g)
 gR:g<w.heap.size
 Rw:w.heap.size≤R
 RX:R<X
theorem NdM.step {w wr w':World} {g R X:Nat} {cs:Array Value} {W W':List ByteArray} {o o':Bool} (h:NdM w g R X cs W o wr) (hr:RdAt w' g W' o') (hg:wr.grownBy w' (some g)):NdM w g R X cs W' o' w':=by
 have h1:=h.gR
 have h2:=h.Rw
 have h3:=h.RX
 exact ⟨h.x.grown hg (fun e=>by have:=Option.some.inj e;omega),h.r.grown hg (fun e=>by have:=Option.some.inj e;omega),hr,h.gr.trans hg,h1,h2,h3⟩
theorem NdM.put {w wr:World} {g R X:Nat} {cs:Array Value} {W:List ByteArray} {o:Bool} (h:NdM w g R X cs W o wr) (i:Nat) (u:Value):NdM w g R X (cs.setIfInBounds i u) W o (wr.setCell ⟨X,i,none⟩ u):=by
 have h1:=h.gR
 have h2:=h.Rw
 have h3:=h.RX
 refine ⟨h.x.set_ i u,h.r.far (by show R≠X;omega) u,h.rd.set (by omega) i u,?_,h1,h2,h3⟩
 have hs:=zG1 wr X i u
 exact ⟨hs.os.trans h.gr.os,hs.tape.trans h.gr.tape,hs.output.trans h.gr.output,nT h.gr.size hs.size,fun k hk hne=>(hs.block k (by have:=h.gr.size;omega) (fun e=>by have:=Option.some.inj e;omega)).trans (h.gr.block k hk hne)⟩
theorem TabIn.set {w:World} {A:Option Addr} {n X i:Nat} {F G:Nat→Int} (h:TabIn w A n F G) (hA:∀b off,A=some ⟨b,off,none⟩→X<b) (u:Value):TabIn (w.setCell ⟨X,i,none⟩ u) A n F G:=by
 refine ⟨h.1,?_⟩
 rcases h.2 with h0 |⟨b,off,hb,h1,h2⟩
 ·exact .inl h0
 ·have:=hA b off hb
  have hk:=Below.heap_setCell w ⟨X,i,none⟩ u b (by show b≠X;omega)
  exact .inr ⟨b,off,hb,by simp [World.setCell];exact h1,fun k hk2=>⟨(World.cell?_of_block hk).trans (h2 k hk2).1,(World.cell?_of_block hk).trans (h2 k hk2).2⟩⟩
def lcs (x:Lkr) (A:Option Addr) (c:Nat):List Value:=[.string x.nm,.string x.fr,.string x.tn,.int .i64 x.kd,.int .i64 x.ln,.int .i64 x.up,.int .i64 x.dn,.string x.sc,.int .i64 x.wd,.int .i64 x.ht,.slice A x.T.length c]
structure LdM (w:World) (g R X:Nat) (cs:Array Value) (W:List ByteArray) (o:Bool) (wr:World):Prop where
 x:Blk wr X 32 cs
 r:Blk wr R 32 #[.string ⟨#[]⟩,.string ⟨#[]⟩,.string ⟨#[]⟩,.int .i64 0,.int .i64 0,.int .i64 0,.int .i64 0,.string ⟨#[]⟩,.int .i64 0,.int .i64 0,.slice none 0 0]
 rd:RdAt wr g W o
 gr:w.grownBy wr (some g)
 gR:g<w.heap.size
 Rw:w.heap.size≤R
 RX:R<X
theorem LdM.step {w wr w':World} {g R X:Nat} {cs:Array Value} {W W':List ByteArray} {o o':Bool} (h:LdM w g R X cs W o wr) (hr:RdAt w' g W' o') (hg:wr.grownBy w' (some g)):LdM w g R X cs W' o' w':=by
 have h1:=h.gR
 have h2:=h.Rw
 have h3:=h.RX
 exact ⟨h.x.grown hg (fun e=>by have:=Option.some.inj e;omega),h.r.grown hg (fun e=>by have:=Option.some.inj e;omega),hr,h.gr.trans hg,h1,h2,h3⟩
theorem LdM.put {w wr:World} {g R X:Nat} {cs:Array Value} {W:List ByteArray} {o:Bool} (h:LdM w g R X cs W o wr) (i:Nat) (u:Value):LdM w g R X (cs.setIfInBounds i u) W o (wr.setCell ⟨X,i,none⟩ u):=by
 have h1:=h.gR
 have h2:=h.Rw
 have h3:=h.RX
 refine ⟨h.x.set_ i u,h.r.far (by show R≠X;omega) u,h.rd.set (by omega) i u,?_,h1,h2,h3⟩
 have hs:=zG1 wr X i u
 exact ⟨hs.os.trans h.gr.os,hs.tape.trans h.gr.tape,hs.output.trans h.gr.output,nT h.gr.size hs.size,fun k hk hne=>(hs.block k (by have:=h.gr.size;omega) (fun e=>by have:=Option.some.inj e;omega)).trans (h.gr.block k hk hne)⟩
def zNd:Ndr:=⟨⟨#[]⟩,0,0,0,0,0,[],false,0⟩
def zLk:Lkr:=⟨⟨#[]⟩,⟨#[]⟩,⟨#[]⟩,0,0,0,0,⟨#[]⟩,0,0,[]⟩
def ndsR (N:List Ndr) (SA:Nat→Option Addr) (SC:Nat→Nat):Nds:=
 ⟨fun k=>(N.getD k zNd).nm,fun k=>(N.getD k zNd).kd,fun k=>(N.getD k zNd).ax,fun k=>(N.getD k zNd).ay,fun k=>(N.getD k zNd).iv,fun k=>(N.getD k zNd).gd,SA,fun k=>(N.getD k zNd).T.length,SC,fun k=>kX (N.getD k zNd).T,fun k=>kY (N.getD k zNd).T,fun k=>(N.getD k zNd).pt,fun k=>(N.getD k zNd).rs⟩
def lksR (L:List Lkr) (CA:Nat→Option Addr) (CC:Nat→Nat):Lks:=
 ⟨fun k=>(L.getD k zLk).nm,fun k=>(L.getD k zLk).fr,fun k=>(L.getD k zLk).tn,fun k=>(L.getD k zLk).kd,fun k=>(L.getD k zLk).ln,fun k=>(L.getD k zLk).up,fun k=>(L.getD k zLk).dn,fun k=>(L.getD k zLk).sc,fun k=>(L.getD k zLk).wd,fun k=>(L.getD k zLk).ht,CA,fun k=>(L.getD k zLk).T.length,CC,fun k=>kX (L.getD k zLk).T,fun k=>kY (L.getD k zLk).T⟩
def netV (N:List Ndr) (L:List Lkr):Prop:=netP (ndsR N (fun _=>none) (fun _=>0)) N.length (lksR L (fun _=>none) (fun _=>0)) L.length
structure Ndm where
 x:Ndr
 A:Option Addr
 c:Nat
structure Lkm where
 x:Lkr
 A:Option Addr
 c:Nat
def ndx (M:List Ndm):List Ndr:=M.map (·.x)
def lkx (M:List Lkm):List Lkr:=M.map (·.x)
def ndsM (M:List Ndm):Nds:=ndsR (ndx M) (fun k=>(M.getD k ⟨zNd,none,0⟩).A) (fun k=>(M.getD k ⟨zNd,none,0⟩).c)
def lksM (M:List Lkm):Lks:=lksR (lkx M) (fun k=>(M.getD k ⟨zLk,none,0⟩).A) (fun k=>(M.getD k ⟨zLk,none,0⟩).c)
def ncm (p:Ndm):List Value:=ncs p.x p.A p.c
def lcm' (p:Lkm):List Value:=lcs p.x p.A p.c
def nc (M:List Ndm):List Value:=M.flatMap ncm
def lc (M:List Lkm):List Value:=M.flatMap lcm'
theorem zL9 (L M:List Ndm):nc (L++M)=nc L++nc M:=by unfold nc;rw [List.flatMap_append]
theorem zM1 (L M:List Lkm):lc (L++M)=lc L++lc M:=by unfold lc;rw [List.flatMap_append]
theorem nc_one (p:Ndm):nc [p]=ncm p:=by simp [nc]
theorem lc_one (p:Lkm):lc [p]=lcm' p:=by simp [lc]
theorem zK4 {α:Type} (f:α→List Value) (n:Nat) (hf:∀a,(f a).length=n):∀(L:List α) (k i:Nat) (a:α),L[k]?=some a→i<n→(L.flatMap f)[k*n+i]?=(f a)[i]?:=by
 intro L
 induction L with
 |nil=>intro k i a h;simp at h
 |cons p L ih=>
  intro k i a h hi
  rw [List.flatMap_cons]
  cases k with
  |zero=>
   simp only [List.getElem?_cons_zero,Option.some.injEq] at h
   subst h
   rw [Nat.zero_mul,Nat.zero_add,List.getElem?_append_left (by rw [hf];exact hi)]
  |succ k=>
   rw [List.getElem?_append_right (by rw [hf,Nat.succ_mul];omega),hf,show (k+1)*n+i - n=k*n+i by rw [Nat.succ_mul];omega]
   exact ih k i a (by simpa using h) hi
theorem flat_len {α:Type} (f:α→List Value) (n:Nat) (hf:∀a,(f a).length=n) (L:List α):(L.flatMap f).length=L.length*n:=by
 induction L with
 |nil=>simp
 |cons p L ih=>rw [List.flatMap_cons,List.length_append,ih,hf,List.length_cons,Nat.succ_mul,Nat.add_comm]
theorem nc_len (M:List Ndm):(nc M).length=M.length*9:=flat_len ncm 9 (fun _=>rfl) M
theorem lc_len (M:List Lkm):(lc M).length=M.length*11:=flat_len lcm' 11 (fun _=>rfl) M
theorem zT8 (M:List Ndm) (k:Nat) (h:k<M.length):(ndsM M).vals k=ncm (M.getD k ⟨zNd,none,0⟩):=by
 have e:(ndx M).getD k zNd=(M.getD k ⟨zNd,none,0⟩).x:=by
  unfold ndx
  simp [List.getD,h]
 unfold ndsM Nds.vals ncm ncs ndsR
 simp only [e]
theorem zU2 (M:List Lkm) (k:Nat) (h:k<M.length):(lksM M).vals k=lcm' (M.getD k ⟨zLk,none,0⟩):=by
 have e:(lkx M).getD k zLk=(M.getD k ⟨zLk,none,0⟩).x:=by
  unfold lkx
  simp [List.getD,h]
 unfold lksM Lks.vals lcm' lcs lksR
 simp only [e]
def TabsN (B:Nat) (W:World) (rn rl:Option Nat) (M:List Ndm):Prop:=∀p,p∈M→TabIn W p.A p.x.T.length (kX p.x.T) (kY p.x.T)∧(p.x.T.length≠0→∀b off,p.A=some ⟨b,off,none⟩→B≤b∧some b≠rn∧some b≠rl)
def TabsL (B:Nat) (W:World) (rn rl:Option Nat) (M:List Lkm):Prop:=∀p,p∈M→TabIn W p.A p.x.T.length (kX p.x.T) (kY p.x.T)∧(p.x.T.length≠0→∀b off,p.A=some ⟨b,off,none⟩→B≤b∧some b≠rn∧some b≠rl)
theorem TabIn.grown {w w':World} {A:Option Addr} {n:Nat} {F G:Nat→Int} {row:Option Nat} (h:TabIn w A n F G) (hg:w.grownBy w' row) (hA:n≠0→∀b off,A=some ⟨b,off,none⟩→some b≠row):TabIn w' A n F G:=by
 refine ⟨h.1,?_⟩
 by_cases hn:n=0
 ·exact .inl hn
 rcases h.2 with h0 |⟨b,off,hb,h1,h2⟩
 ·exact .inl h0
 ·have hk:=hg.block b h1 (hA hn b off hb)
  exact .inr ⟨b,off,hb,Nat.lt_of_lt_of_le h1 hg.size,fun k hk2=>⟨(World.cell?_of_block hk).trans (h2 k hk2).1,(World.cell?_of_block hk).trans (h2 k hk2).2⟩⟩
theorem TabIn.blk_lt {w:World} {b off n:Nat} {F G:Nat→Int} (h:TabIn w (some ⟨b,off,none⟩) n F G) (hn:n≠0):b<w.heap.size:=by
 rcases h.2 with h0 |⟨b',off',hb,h1,_⟩
 ·exact absurd h0 hn
 ·cases hb;exact h1
structure PaI (w:World) (NM:List Ndm) (LM:List Lkm) (vn vl:Value) (W:World):Prop where
 r0:Blk W w.heap.size 52 #[.slice none 0 0,.slice none 0 0]
 r1:Blk W (w.heap.size+1) 37 #[.int .i64 0,.int .i64 0]
 nt:Blk W (w.heap.size+1+1) 52 #[vn,vl]
 on:W.ownsRow (w.heap.size+3) 30 9 vn NM.length (nc NM)
 ol:W.ownsRow (w.heap.size+3) 32 11 vl LM.length (lc LM)
 tn:TabsN (w.heap.size+3) W vn.ownBlock vl.ownBlock NM
 tl:TabsL (w.heap.size+3) W vn.ownBlock vl.ownBlock LM
 bl:Below w.heap.size w W
theorem PaI.size {w W:World} {NM:List Ndm} {LM:List Lkm} {vn vl:Value} (h:PaI w NM LM vn vl W):w.heap.size+3≤W.heap.size:=h.nt.lt
theorem PaI.call {w W W':World} {NM:List Ndm} {LM:List Lkm} {vn vl:Value} (h:PaI w NM LM vn vl W) (hb:Below W.heap.size W W'):PaI w NM LM vn vl W':=
 ⟨h.r0.call hb,h.r1.call hb,h.nt.call hb,zC0 h.on hb,zC0 h.ol hb,
  fun p hp=>⟨(h.tn p hp).1.below (nl _) hb,(h.tn p hp).2⟩,fun p hp=>⟨(h.tl p hp).1.below (nl _) hb,(h.tl p hp).2⟩,zA1 h.bl hb⟩
theorem zR2 {W:World} {B B' n m s s':Nat} {e e':TypeId} {u v:Value} {xs ys:List Value} (h:W.ownsRow B e s u n xs) (h':W.ownsRow B' e' s' v m ys) (hne:e≠e'):u.ownBlock=none∨u.ownBlock≠v.ownBlock:=by
 rcases h.2 with ⟨rfl,_⟩|⟨g,cap,cur,rfl,hg,hb,_⟩
 ·exact .inl rfl
 ·refine .inr fun e2=>?_
  exact zJ5 (t:=e) h' (show Blk W g e cur from hb) (fun e3=>hne e3.symm) e2.symm
theorem PaI.keep {w W w8:World} {NM:List Ndm} {LM:List Lkm} {vn vl v v':Value} {tmp:Obj} {i:Nat} {B0:Nat} (h:PaI w NM LM vn vl W) (hv:v=vn∨v=vl) (hg:(W.alloc tmp).grownBy w8 v.ownBlock) (hat:v'.ownBlock=v.ownBlock∨v'.ownBlock=some (W.heap.size+1)):
 (∀{j:Nat} {t:TypeId} {cs:Array Value},j<w.heap.size+3→Blk W j t cs→Blk w8 j t cs)∧
 (∀{A:Option Addr} {n:Nat} {F G:Nat→Int},TabIn W A n F G→(n≠0→∀b off,A=some ⟨b,off,none⟩→w.heap.size+3≤b∧some b≠vn.ownBlock∧some b≠vl.ownBlock)→TabIn (w8.setCell ⟨w.heap.size+1+1,i,none⟩ v') A n F G∧(n≠0→∀b off,A=some ⟨b,off,none⟩→some b≠v'.ownBlock))∧
 Below w.heap.size w (w8.setCell ⟨w.heap.size+1+1,i,none⟩ v'):=by
 have hsz:=h.size
 have hnb:∀g,v.ownBlock=some g→w.heap.size+3≤g:=fun g e=>by
  rcases hv with rfl |rfl
  ·exact (h.on.lt g e).1
  ·exact (h.ol.lt g e).1
 have hset:=zG1 w8 (w.heap.size+1+1) i v'
 have hal:Below W.heap.size W (W.alloc tmp):=(bR _ W).alloc (nl _) tmp
 refine ⟨fun hj hb=>(hb.alloc tmp).grown hg (fun e=>by have:=hnb _ e.symm;omega),fun {A n F G} ht hA=>⟨?_,?_⟩,?_⟩
 ·refine ((ht.below (nl _) hal).grown hg (fun hn b off e=>?_)).grown hset (fun hn b off e e2=>by have:=Option.some.inj e2;have:=(hA hn b off e).1;omega)
  rcases hv with rfl |rfl
  ·exact (hA hn b off e).2.1
  ·exact (hA hn b off e).2.2
 ·intro hn b off e e2
  rcases hat with h2 |h2
  ·rw [h2] at e2
   rcases hv with rfl |rfl
   ·exact (hA hn b off e).2.1 e2
   ·exact (hA hn b off e).2.2 e2
  ·rw [h2] at e2
   have:=Option.some.inj e2
   rw [e] at ht
   have:=ht.blk_lt hn
   omega
 ·exact (zA9 (h.bl.alloc (by omega) tmp) (by simp;omega) hg (fun g e=>by have:=hnb g e;omega)).setCell (p:=⟨w.heap.size+1+1,i,none⟩) (by show w.heap.size≤w.heap.size+1+1;omega) _
theorem zA6 {w8:World} {B n g i s:Nat} {e:TypeId} {u x:Value} {xs:List Value} (h:w8.ownsRow B e s u n xs) (hg:g<B):(w8.setCell ⟨g,i,none⟩ x).ownsRow B e s u n xs:=by
 refine h.kept (zG1 w8 g i x) ?_
 cases e1:u.ownBlock with
 |none=>exact .inl rfl
 |some g'=>exact .inr fun e2=>by have:=(h.lt g' e1).1;have:=Option.some.inj e2;omega
theorem PaI.nodeApp {w W w8:World} {NM:List Ndm} {LM:List Lkm} {vn vl vn':Value} {p:Ndm} {tmp:Obj} (h:PaI w NM LM vn vl W) (hp:TabIn W p.A p.x.T.length (kX p.x.T) (kY p.x.T)) (hpA:p.x.T.length≠0→∀b off,p.A=some ⟨b,off,none⟩→w.heap.size+3≤b∧some b≠vn.ownBlock∧some b≠vl.ownBlock)
 (hown:w8.ownsRow (w.heap.size+3) 30 9 vn' (NM.length+1) (nc NM++ncm p)) (hg:(W.alloc tmp).grownBy w8 vn.ownBlock) (hat:vn'.ownBlock=vn.ownBlock∨vn'.ownBlock=some (W.heap.size+1)):
 PaI w (NM++[p]) LM vn' vl (w8.setCell ⟨w.heap.size+1+1,0,none⟩ vn'):=by
 obtain ⟨blk,tabs,bl⟩:=h.keep (i:=0) (.inl rfl) hg hat (B0:=0)
 have hal:Below W.heap.size W (W.alloc tmp):=(bR _ W).alloc (nl _) tmp
 refine ⟨(blk (by omega) h.r0).far (by show w.heap.size≠w.heap.size+1+1;omega) _,(blk (by omega) h.r1).far (by show w.heap.size+1≠w.heap.size+1+1;omega) _,(blk (by omega) h.nt).set_ 0 vn',?_,?_,fun q hq=>?_,fun q hq=>?_,bl⟩
 ·rw [zL9,nc_one,List.length_append]
  exact zA6 hown (by omega)
 ·refine zA6 ((zC0 h.ol hal).kept hg ?_) (by omega)
  rcases zR2 h.ol h.on (by decide) with h1 |h1
  ·exact .inl h1
  ·exact .inr h1
 ·have key:TabIn W q.A q.x.T.length (kX q.x.T) (kY q.x.T)∧(q.x.T.length≠0→∀b off,q.A=some ⟨b,off,none⟩→w.heap.size+3≤b∧some b≠vn.ownBlock∧some b≠vl.ownBlock):=by
   rcases List.mem_append.1 hq with hq |hq
   ·exact h.tn q hq
   ·rw [List.mem_singleton.1 hq];exact ⟨hp,hpA⟩
  obtain ⟨t1,t2⟩:=tabs key.1 key.2
  exact ⟨t1,fun hn b off e=>⟨(key.2 hn b off e).1,t2 hn b off e,(key.2 hn b off e).2.2⟩⟩
 ·have key:=h.tl q hq
  obtain ⟨t1,t2⟩:=tabs key.1 key.2
  exact ⟨t1,fun hn b off e=>⟨(key.2 hn b off e).1,t2 hn b off e,(key.2 hn b off e).2.2⟩⟩
theorem PaI.linkApp {w W w8:World} {NM:List Ndm} {LM:List Lkm} {vn vl vl':Value} {p:Lkm} {tmp:Obj} (h:PaI w NM LM vn vl W) (hp:TabIn W p.A p.x.T.length (kX p.x.T) (kY p.x.T)) (hpA:p.x.T.length≠0→∀b off,p.A=some ⟨b,off,none⟩→w.heap.size+3≤b∧some b≠vn.ownBlock∧some b≠vl.ownBlock)
 (hown:w8.ownsRow (w.heap.size+3) 32 11 vl' (LM.length+1) (lc LM++lcm' p)) (hg:(W.alloc tmp).grownBy w8 vl.ownBlock) (hat:vl'.ownBlock=vl.ownBlock∨vl'.ownBlock=some (W.heap.size+1)):
 PaI w NM (LM++[p]) vn vl' (w8.setCell ⟨w.heap.size+1+1,1,none⟩ vl'):=by
 obtain ⟨blk,tabs,bl⟩:=h.keep (i:=1) (.inr rfl) hg hat (B0:=0)
 have hal:Below W.heap.size W (W.alloc tmp):=(bR _ W).alloc (nl _) tmp
 refine ⟨(blk (by omega) h.r0).far (by show w.heap.size≠w.heap.size+1+1;omega) _,(blk (by omega) h.r1).far (by show w.heap.size+1≠w.heap.size+1+1;omega) _,(blk (by omega) h.nt).set_ 1 vl',?_,?_,fun q hq=>?_,fun q hq=>?_,bl⟩
 ·refine zA6 ((zC0 h.on hal).kept hg ?_) (by omega)
  rcases zR2 h.on h.ol (by decide) with h1 |h1
  ·exact .inl h1
  ·exact .inr h1
 ·rw [zM1,lc_one,List.length_append]
  exact zA6 hown (by omega)
 ·have key:=h.tn q hq
  obtain ⟨t1,t2⟩:=tabs key.1 key.2
  exact ⟨t1,fun hn b off e=>⟨(key.2 hn b off e).1,(key.2 hn b off e).2.1,t2 hn b off e⟩⟩
 ·have key:TabIn W q.A q.x.T.length (kX q.x.T) (kY q.x.T)∧(q.x.T.length≠0→∀b off,q.A=some ⟨b,off,none⟩→w.heap.size+3≤b∧some b≠vn.ownBlock∧some b≠vl.ownBlock):=by
   rcases List.mem_append.1 hq with hq |hq
   ·exact h.tl q hq
   ·rw [List.mem_singleton.1 hq];exact ⟨hp,hpA⟩
  obtain ⟨t1,t2⟩:=tabs key.1 key.2
  exact ⟨t1,fun hn b off e=>⟨(key.2 hn b off e).1,(key.2 hn b off e).2.1,t2 hn b off e⟩⟩
theorem zI5 {W:World} {B:Nat} {NM:List Ndm} {rn rl:Option Nat} {A:Option Addr} {n c:Nat} (hon:W.ownsRow B 30 9 (.slice A n c) NM.length (nc NM)) (htn:TabsN B W rn rl NM) (hb:NM.length≤300000):n=NM.length∧NdIn W A NM.length (ndsM NM):=by
 rcases hon.2 with ⟨hv,h0⟩|⟨g,cap,cur,hv,hg,hbk,hnc,hcm,hs,ht⟩
 ·cases hv
  exact ⟨h0.symm,by omega,.inl h0⟩
 ·cases hv
  refine ⟨rfl,by omega,?_⟩
  refine .inr ⟨g,0,rfl,(hon.lt g rfl).2,fun k hk=>⟨fun i v hi=>?_,?_⟩⟩
  ·rw [zT8 NM k hk] at hi
   have hi9:i<9:=(List.getElem?_eq_some_iff.1 hi).1
   have hk9:k*9+9≤NM.length*9:=by rw [←Nat.succ_mul];exact Nat.mul_le_mul_right 9 hk
   rw [Nat.zero_add,hon.cellAt (k*9+i) (by omega)]
   have hk2:NM[k]?=some (NM.getD k ⟨zNd,none,0⟩):=by simp [List.getD,hk]
   rw [←hi]
   exact zK4 ncm 9 (fun _=>rfl) NM k i _ hk2 hi9
  ·have hk2:NM[k]?=some (NM.getD k ⟨zNd,none,0⟩):=by simp [List.getD,hk]
   have:=(htn _ (List.mem_of_getElem? hk2)).1
   have e:(ndx NM).getD k zNd=(NM.getD k ⟨zNd,none,0⟩).x:=by unfold ndx;simp [List.getD,hk]
   show TabIn W _ (((ndx NM).getD k zNd).T.length) (kX ((ndx NM).getD k zNd).T) (kY ((ndx NM).getD k zNd).T)
   rw [e]
   exact this
theorem zG6 {W:World} {B:Nat} {LM:List Lkm} {rn rl:Option Nat} {A:Option Addr} {n c:Nat} (hol:W.ownsRow B 32 11 (.slice A n c) LM.length (lc LM)) (htl:TabsL B W rn rl LM) (hb:LM.length≤300000):n=LM.length∧LkIn W A LM.length (lksM LM):=by
 rcases hol.2 with ⟨hv,h0⟩|⟨g,cap,cur,hv,hg,hbk,hnc,hcm,hs,ht⟩
 ·cases hv
  exact ⟨h0.symm,by omega,.inl h0⟩
 ·cases hv
  refine ⟨rfl,by omega,?_⟩
  refine .inr ⟨g,0,rfl,(hol.lt g rfl).2,fun k hk=>⟨fun i v hi=>?_,?_⟩⟩
  ·rw [zU2 LM k hk] at hi
   have hi9:i<11:=(List.getElem?_eq_some_iff.1 hi).1
   have hk11:k*11+11≤LM.length*11:=by rw [←Nat.succ_mul];exact Nat.mul_le_mul_right 11 hk
   rw [Nat.zero_add,hol.cellAt (k*11+i) (by omega)]
   have hk2:LM[k]?=some (LM.getD k ⟨zLk,none,0⟩):=by simp [List.getD,hk]
   rw [←hi]
   exact zK4 lcm' 11 (fun _=>rfl) LM k i _ hk2 hi9
  ·have hk2:LM[k]?=some (LM.getD k ⟨zLk,none,0⟩):=by simp [List.getD,hk]
   have:=(htl _ (List.mem_of_getElem? hk2)).1
   have e:(lkx LM).getD k zLk=(LM.getD k ⟨zLk,none,0⟩).x:=by unfold lkx;simp [List.getD,hk]
   show TabIn W _ (((lkx LM).getD k zLk).T.length) (kX ((lkx LM).getD k zLk).T) (kY ((lkx LM).getD k zLk).T)
   rw [e]
   exact this
theorem PaI.nodes {w W:World} {NM:List Ndm} {LM:List Lkm} {vl:Value} {A:Option Addr} {n c:Nat} (h:PaI w NM LM (.slice A n c) vl W) (hb:NM.length≤300000):n=NM.length∧NdIn W A NM.length (ndsM NM):=zI5 h.on h.tn hb
theorem PaI.links {w W:World} {NM:List Ndm} {LM:List Lkm} {vn:Value} {A:Option Addr} {n c:Nat} (h:PaI w NM LM vn (.slice A n c) W) (hb:LM.length≤300000):n=LM.length∧LkIn W A LM.length (lksM LM):=zG6 h.ol h.tl hb
def st4 (W:World) (R:Nat) (a b c d:Value):World:=(((W.setCell ⟨R,0,none⟩ a).setCell ⟨R,1,none⟩ b).setCell ⟨R+1,0,none⟩ c).setCell ⟨R+1,1,none⟩ d
theorem PaI.out {w W:World} {NM:List Ndm} {LM:List Lkm} {vn vl:Value} (h:PaI w NM LM vn vl W) (a b c d:Value):
 Blk (st4 W w.heap.size a b c d) w.heap.size 52 #[a,b]∧Blk (st4 W w.heap.size a b c d) (w.heap.size+1) 37 #[c,d]∧Below w.heap.size w (st4 W w.heap.size a b c d)∧
 (st4 W w.heap.size a b c d).ownsRow (w.heap.size+3) 30 9 vn NM.length (nc NM)∧(st4 W w.heap.size a b c d).ownsRow (w.heap.size+3) 32 11 vl LM.length (lc LM)∧
 TabsN (w.heap.size+3) (st4 W w.heap.size a b c d) vn.ownBlock vl.ownBlock NM∧TabsL (w.heap.size+3) (st4 W w.heap.size a b c d) vn.ownBlock vl.ownBlock LM:=by
 have tabs:∀{A:Option Addr} {n:Nat} {F G:Nat→Int},TabIn W A n F G→(n≠0→∀b off,A=some ⟨b,off,none⟩→w.heap.size+3≤b)→TabIn (st4 W w.heap.size a b c d) A n F G:=fun {A n F G} ht hA=>by
  have k:∀r,r<w.heap.size+3→n≠0→∀b off,A=some ⟨b,off,none⟩→some b≠some r:=fun r hr hn b off e e2=>by have:=hA hn b off e;have:=Option.some.inj e2;omega
  exact ((((ht.grown (zG1 _ _ 0 a) (k _ (by omega))).grown (zG1 _ _ 1 b) (k _ (by omega))).grown (zG1 _ _ 0 c) (k _ (by omega))).grown (zG1 _ _ 1 d) (k _ (by omega)))
 unfold st4 at*
 refine ⟨(((h.r0.set_ 0 a).set_ 1 b).far (by show w.heap.size≠w.heap.size+1;omega) c).far (by show w.heap.size≠w.heap.size+1;omega) d,(((h.r1.far (by show w.heap.size+1≠w.heap.size;omega) a).far (by show w.heap.size+1≠w.heap.size;omega) b).set_ 0 c).set_ 1 d,?_,?_,?_,fun q hq=>⟨tabs (h.tn q hq).1 (fun hn b off e=>((h.tn q hq).2 hn b off e).1),(h.tn q hq).2⟩,fun q hq=>⟨tabs (h.tl q hq).1 (fun hn b off e=>((h.tl q hq).2 hn b off e).1),(h.tl q hq).2⟩⟩
 ·exact (((h.bl.setCell (p:=⟨w.heap.size,0,none⟩) (nl _) a).setCell (p:=⟨w.heap.size,1,none⟩) (nl _) b).setCell (p:=⟨w.heap.size+1,0,none⟩) (by show w.heap.size≤w.heap.size+1;omega) c).setCell (p:=⟨w.heap.size+1,1,none⟩) (by show w.heap.size≤w.heap.size+1;omega) d
 ·exact zA6 (zA6 (zA6 (zA6 h.on (by omega)) (by omega)) (by omega)) (by omega)
 ·exact zA6 (zA6 (zA6 (zA6 h.ol (by omega)) (by omega)) (by omega)) (by omega)
structure PaE (w W:World):Prop where
 r0:Blk W w.heap.size 52 #[.slice none 0 0,.slice none 0 0]
 r1:Blk W (w.heap.size+1) 37 #[.int .i64 0,.int .i64 0]
 bl:Below w.heap.size w W
theorem PaI.err {w W:World} {NM:List Ndm} {LM:List Lkm} {vn vl:Value} (h:PaI w NM LM vn vl W):PaE w W:=⟨h.r0,h.r1,h.bl⟩
theorem PaE.set {w W:World} {g i:Nat} (h:PaE w W) (hg:w.heap.size+2≤g) (u:Value):PaE w (W.setCell ⟨g,i,none⟩ u):=
 ⟨h.r0.far (by show w.heap.size≠g;omega) u,h.r1.far (by show w.heap.size+1≠g;omega) u,h.bl.setCell (p:=⟨g,i,none⟩) (by show w.heap.size≤g;omega) u⟩
theorem PaE.out {w W:World} (h:PaE w W) (a b c d:Value):
 Blk (st4 W w.heap.size a b c d) w.heap.size 52 #[a,b]∧Blk (st4 W w.heap.size a b c d) (w.heap.size+1) 37 #[c,d]∧Below w.heap.size w (st4 W w.heap.size a b c d):=by
 unfold st4
 refine ⟨(((h.r0.set_ 0 a).set_ 1 b).far (by show w.heap.size≠w.heap.size+1;omega) c).far (by show w.heap.size≠w.heap.size+1;omega) d,(((h.r1.far (by show w.heap.size+1≠w.heap.size;omega) a).far (by show w.heap.size+1≠w.heap.size;omega) b).set_ 0 c).set_ 1 d,?_⟩
 exact (((h.bl.setCell (p:=⟨w.heap.size,0,none⟩) (nl _) a).setCell (p:=⟨w.heap.size,1,none⟩) (nl _) b).setCell (p:=⟨w.heap.size+1,0,none⟩) (by show w.heap.size≤w.heap.size+1;omega) c).setCell (p:=⟨w.heap.size+1,1,none⟩) (by show w.heap.size≤w.heap.size+1;omega) d
theorem Runs.len {N N':List Ndr} {L L':List Lkr} {ls:List (List UInt8)} (h:Runs N L ls N' L'):N'.length+L'.length=N.length+L.length+ls.length:=by
 induction h with
 |nil=>rfl
 |cons h1 _ ih=>
  rw [ih]
  rcases h1 with ⟨l,z,_,_,a,b,c⟩|⟨l,y,_,_,a,b⟩
  ·subst a b c;simp;omega
  ·subst a b;simp;omega
end Go.Proofs.YtchakniaoeodmaaGreatDoor

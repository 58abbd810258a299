/- Merged texts of these proofs: Rng, Seq, TxT, PrT, Spw. -/
import Derived.RangeFuncNested
import Derived.RangeFuncBound
import Derived.RangeFuncCalls
import Derived.RangeFuncLeaves
import Derived.Test.YtchakniaoeodmaaGreatDoorMgH
import Derived.Shelf.Abstract
import Derived.Shelf.RegionOpen
import Derived.WalkKit
import Derived.OwnWalkIn
import Derived.TacticsInMore
import Derived.LoopNIn
import Derived.LoopIn
import Derived.Test.YtchakniaoeodmaaGreatDoorMgZ
import Derived.Test.YtchakniaoeodmaaGreatDoorMgQ
import Derived.Test.YtchakniaoeodmaaGreatDoorTabTwo
import Derived.RangeFuncBox
import Derived.Maps.AppendAt
import Derived.Lib.IndexBytes
import Derived.Lib.SplitLaws
import Derived.Shelf.Strings.SplitCore
namespace Go.Proofs.YtchakniaoeodmaaGreatDoor
open Go.RowKit
set_option linter.unusedVariables false
set_option linter.unusedSimpArgs false
variable {α:Type}
def Holds (bs B:Nat) (I:List α→World→Prop):Prop:=∀pre W W' row,I pre W→W.grownBy W' row→(∀r,row=some r→r=bs∨(B≤r∧∃o:Obj,W.heap[r]?=some o∧o.isCells=false))→I pre W'
theorem Holds.put {bs B:Nat} {I:List α→World→Prop} (h:Holds bs B I) {pre:List α} {W:World} {l:Nat} {o:Obj} (o':Obj) (hs:I pre W) (hB:B≤l) (hl:W.heap[l]?=some o) (ho:o.isCells=false):I pre (W.putObj l o'):=
 h pre W _ (some l) hs (grownBy_putObj' W l o') (fun r e=>by cases e;exact .inr ⟨hB,o,hl,ho⟩)
theorem Holds.new {bs B:Nat} {I:List α→World→Prop} (h:Holds bs B I) {pre:List α} {W:World} (o:Obj) (hs:I pre W):I pre (W.alloc o):=
 h pre W _ none hs (World.grownBy_alloc W o none) (fun r e=>by cases e)
variable {F:Fence} {n:Nat} {P:Program}
open Go.RowKit Go.Shelf
attribute [local go_sem] Oper.semAt_some
structure SpAt (w:World) (b:Nat) (s:ByteArray):Prop where
 lt:b+2<w.heap.size
 s0:w.cell? ⟨b,0,none⟩=some (.string s)
 f0:w.frozen? ⟨b,0,none⟩=false
 s1:w.cell? ⟨b+1,0,none⟩=some (.string ⟨#[32]⟩)
 s2:w.cell? ⟨b+2,0,none⟩=some (.int .i64 0)
def Kp3 (b:Nat) (A B:World):Prop:=A.heap.size≤B.heap.size∧∀k,b≤k→k≤b+2→B.heap[k]?=A.heap[k]?
theorem Kp3.t {b:Nat} {A B C:World} (h:Kp3 b A B) (h':Kp3 b B C):Kp3 b A C:=⟨nT h.1 h'.1,fun k h1 h2=>(h'.2 k h1 h2).trans (h.2 k h1 h2)⟩
theorem SpAt.keep {w w':World} {b:Nat} {s:ByteArray} (h:SpAt w b s) (k:Kp3 b w w'):SpAt w' b s:=
 ⟨Nat.lt_of_lt_of_le h.lt k.1,(World.cell?_of_block (k.2 b (nl _) (by omega))).trans h.s0,(World.frozen?_of_block (k.2 b (nl _) (by omega))).trans h.f0,(World.cell?_of_block (k.2 (b+1) (by omega) (by omega))).trans h.s1,(World.cell?_of_block (k.2 (b+2) (by omega) (by omega))).trans h.s2⟩
theorem SpAt.put {w:World} {b:Nat} {s:ByteArray} (h:SpAt w b s) (r:ByteArray):SpAt (w.setCell ⟨b,0,none⟩ (.string r)) b r:=
 ⟨by have:(w.setCell ⟨b,0,none⟩ (.string r)).heap.size=w.heap.size:=by simp [World.setCell]
     rw [this];exact h.lt,
  World.cell?_setCell_same' _ _ _ (by rw [h.s0];rfl),by rw [World.frozen?_setCell];exact h.f0,(World.cell?_setCell_other w ⟨b,0,none⟩ ⟨b+1,0,none⟩ _ (by simp)).trans h.s1,(World.cell?_setCell_other w ⟨b,0,none⟩ ⟨b+2,0,none⟩ _ (by simp)).trans h.s2⟩
def left (b:Nat) (w:World):Nat:=match w.cell? ⟨b,0,none⟩ with |some (.string r)=>r.size+1 |_=>0
def words (s:ByteArray):List ByteArray:=(wds s.data.toList).map fun l=>⟨l.toArray⟩
theorem zV0 (l:List UInt8) (c:UInt8):(c∉l∧Lib.indexByte l c= -1)∨∃a b,l=a++c::b∧c∉a∧Lib.indexByte l c=(a.length:Int):=by
 induction l with
 |nil=>exact .inl ⟨by simp,rfl⟩
 |cons x l ih=>
  unfold Lib.indexByte
  by_cases h:x=c
  ·subst h
   exact .inr ⟨[],l,rfl,by simp,by simp⟩
  ·have h1:(x==c)=false:=by simp [h]
   rw [h1]
   simp only [Bool.false_eq_true,if_false]
   rcases ih with ⟨hn,e⟩|⟨a,b,e1,e2,e3⟩
   ·exact .inl ⟨by simp [hn,Ne.symm h],by rw [e];rfl⟩
   ·refine .inr ⟨x::a,b,by rw [e1];rfl,by simp [e2,Ne.symm h],?_⟩
    rw [e3]
    have:((a.length:Int)== -1)=false:=by simp<;> omega
    rw [this]
    simp
theorem inB_near {v:Int} (h:inB v):near v:=by unfold inB at h;unfold near;omega
theorem TabOK.near {n:Nat} {X Y:Nat→Int} (h:TabOK n X Y) (k:Nat) (hk:k<n):near (X k)∧near (Y k):=⟨inB_near (h.2.2 k hk).1,inB_near (h.2.2 k hk).2.1⟩
attribute [local go_sem] Oper.semAt_some
theorem cut_split (s:ByteArray) (c:UInt8):(Lib.indexByte s.data.toList c= -1)∨∃k:Nat,Lib.indexByte s.data.toList c=(k:Int)∧k<s.size:=by
 rcases zV0 s.data.toList c with ⟨h,e⟩|⟨a,b,e1,e2,e3⟩
 ·exact .inl e
 ·refine .inr ⟨a.length,e3,?_⟩
  have:s.size=s.data.toList.length:=(Array.length_toList (xs:=s.data)).symm
  rw [this,e1];simp
def cutA (s:ByteArray) (c:UInt8):ByteArray:=if Lib.indexByte s.data.toList c= -1 then s else s.extract 0 (Lib.indexByte s.data.toList c).toNat
def cutB (s:ByteArray) (c:UInt8):ByteArray:=if Lib.indexByte s.data.toList c= -1 then ⟨#[]⟩ else s.extract ((Lib.indexByte s.data.toList c).toNat+1) s.size
def cutF (s:ByteArray) (c:UInt8):Bool:=if Lib.indexByte s.data.toList c= -1 then false else true
theorem cut_size (s:ByteArray) (c:UInt8):(cutA s c).size≤s.size∧(cutB s c).size≤s.size:=by
 unfold cutA cutB
 rcases cut_split s c with e |⟨k,e,hk⟩
 ·rw [if_pos e,if_pos e];exact ⟨nl _,Nat.zero_le _⟩
 ·rw [if_neg (by omega),if_neg (by omega),ByteArray.size_extract,ByteArray.size_extract];omega
theorem cut_at {a b:List UInt8} {c:UInt8} (h:c∉a):cutA ⟨(a++c::b).toArray⟩ c=⟨a.toArray⟩∧cutB ⟨(a++c::b).toArray⟩ c=⟨b.toArray⟩:=by
 have e:Lib.indexByte (a++c::b) c=(a.length:Int):=by
  rcases zV0 (a++c::b) c with ⟨hn,_⟩|⟨a',b',e1,e2,e3⟩
  ·exact absurd (by simp) hn
  ·rw [e3]
   have:a.length=a'.length:=by
        clear e3
        induction a generalizing a' with
        |nil=>
         cases a' with
         |nil=>rfl
         |cons x a'=>simp at e1;exact absurd (by simp [e1.1]) e2
        |cons y a ih=>
         cases a' with
         |nil=>simp at e1;exact absurd (by simp [e1.1]) h
         |cons x a'=>
          simp at e1
          have:=ih (fun g=>h (by simp [g])) a' e1.2 (fun g=>e2 (by simp [g]))
          simp [this]
   omega
 have e':Lib.indexByte (⟨(a++c::b).toArray⟩:ByteArray).data.toList c=(a.length:Int):=e
 unfold cutA cutB
 rw [if_neg (by omega),if_neg (by omega),e']
 constructor
 ·apply ByteArray.ext
  rw [ByteArray.data_extract]
  apply Array.ext'
  rw [Array.toList_extract]
  simp
 ·apply ByteArray.ext
  rw [ByteArray.data_extract]
  apply Array.ext'
  rw [Array.toList_extract]
  have:(⟨(a++c::b).toArray⟩:ByteArray).size=a.length+1+b.length:=by show (a++c::b).length=_;simp;omega
  rw [this]
  simp
theorem tcutc0 (s:ByteArray) (hs:s.size≤8388608) (c:UInt8) (w:World):Calls Tryz.prog 135 #[.string s,.string ⟨#[c]⟩] w fun e w'=>e= .returned (.tuple #[.string (cutA s c),.string (cutB s c),.bool (cutF s c)])∧Below w.heap.size w w':=by
 have S:=fun w=>Tryz.stringslite_Index_one s c w
 rcases cut_split s c with e |⟨k,e,hk⟩
 ·have ea:cutA s c=s:=if_pos e
  have eb:cutB s c=⟨#[]⟩:=if_pos e
  have ef:cutF s c=false:=if_pos e
  rw [ea,eb,ef]
  rw [e] at S
  have S:=LH S
  clear e hs ea eb ef
  go_enter Tryz.func135,Tryz.ntmps135
  go_wp2_with (first |(go_at_call 178;(with_reducible refine (S.out _).mono ?_);rintro e w' ⟨rfl,rfl⟩))
  go_ret3
  exact ⟨rfl,bel⟩
 ·obtain ⟨kk,hkk⟩:∃z,z=k+1:=⟨_,rfl⟩
  have ea:cutA s c=s.extract 0 k:=by unfold cutA;rw [if_neg (by omega),e];rfl
  have eb:cutB s c=s.extract kk s.size:=by unfold cutB;rw [if_neg (by omega),e,hkk];rfl
  have ef:cutF s c=true:=if_neg (by omega)
  rw [ea,eb,ef]
  rw [e] at S
  have S:=LH S
  have t1:decide ((0:Int)≤(k:Int))=true:=dU (by omega)
  have t2:IntKind.i64.wrap ((k:Int)+1)=(kk:Int):=by rw [IntKind.wrap_i64];omega
  have t3:kk≤s.size:=by omega
  have t4:(kk:Int)≤(s.size:Int):=by omega
  have t5:k≤s.size:=by omega
  have t6:(k:Int)≤(s.size:Int):=by omega
  clear e hk hkk hs ea eb ef
  go_enter Tryz.func135,Tryz.ntmps135
  go_wp2_with (first |(go_at_call 178;(with_reducible refine (S.out _).mono ?_);rintro e w' ⟨rfl,rfl⟩))
  go_quiet (fail)
  go_wp2_with fail
  go_ret3
  exact ⟨by simp [*],bel⟩
theorem tcutc (s:ByteArray) (hs:s.size≤8388608) (c:UInt8) (w:World):Calls Tryz.prog 87 #[.string s,.string ⟨#[c]⟩] w fun e w'=>e= .returned (.tuple #[.string (cutA s c),.string (cutB s c),.bool (cutF s c)])∧Below w.heap.size w w':=by
 have S:=LH fun w=>tcutc0 s hs c w
 clear hs
 go_enter Tryz.func87,Tryz.ntmps87
 go_wp2_with (first |(go_at_call 135;(with_reducible refine (S.out _).mono ?_);rintro e w1 ⟨rfl,hb1⟩;obtain ⟨hc1,hf1⟩:=zA8 hb1;have hz1:=hb1.size;(try simp at hz1);(try simp only [heap_drew,World.heap_drewN] at hz1 hc1 hf1);(try have hs1:=Nat.lt_of_succ_le hz1);(try have hs2:=Nat.lt_of_succ_lt hs1);(try have y0:w.heap.size<w1.heap.size:=by omega);(try have y1:w.heap.size+1<w1.heap.size:=by omega);(try have y2:w.heap.size+2<w1.heap.size:=by omega)))
 go_ret3
 refine ⟨rfl,?_⟩
 exact bel
theorem words_at {s x:ByteArray} {pre post:List ByteArray} (hx:words s=pre++x::post) {n:Nat} {X Y:Nat→Int} (hok:TabOK n X Y) (ht:s.data.toList=txL X Y n):pre.length<n∧x=⟨(ktx (X pre.length) (Y pre.length)).toArray⟩:=by
 obtain ⟨m,rfl⟩:∃m,n=m+1:=⟨n - 1,by have:=hok.1;omega⟩
 unfold words at hx
 rw [ht,wds_tx] at hx
 have hl:=congrArg List.length hx
 rw [List.length_map,kws_len,List.length_append,List.length_cons] at hl
 have hlt:pre.length<m+1:=by omega
 refine ⟨hlt,?_⟩
 have e:=congrArg (fun l=>l[pre.length]?) hx
 simp only [List.getElem?_map,kws_get X Y hlt,List.getElem?_append_right (nl _),Nat.sub_self,List.getElem?_cons_zero,Option.map_some,Option.some.injEq] at e
 exact e.symm
def Agree (s:ByteArray) (L:List (Int×Int)):Prop:=∀n X Y,TabOK n X Y→s.data.toList=txL X Y n→L=tl L.length X Y
theorem agree_step {s x:ByteArray} {pre post:List ByteArray} {L:List (Int×Int)} {v1 v2:Int} (hx:words s=pre++x::post) (hL:L.length=pre.length) (h:Agree s L) (h1:Lib.atoiAll (cutA x 58).data.toList= .ok v1) (h2:Lib.atoiAll (cutB x 58).data.toList= .ok v2):Agree s (L++[(v1,v2)]):=fun n X Y hok ht=>by
 obtain ⟨hlt,e⟩:=words_at hx hok ht
 have hn:=hok.near pre.length hlt
 rw [e] at h1 h2
 obtain ⟨c1,c2⟩:=cut_at (b:=Lib.itoa (Y pre.length)) (zU8 (X pre.length))
 unfold ktx at h1 h2
 rw [c1] at h1
 rw [c2] at h2
 have a1:=Lib.NumEnd.ok.inj (h1.symm.trans (zM5 hn.1.1 hn.1.2))
 have a2:=Lib.NumEnd.ok.inj (h2.symm.trans (zM5 hn.2.1 hn.2.2))
 have e2:=h n X Y hok ht
 rw [List.length_append,List.length_singleton,tl_succ,hL,a1,a2]
 rw [hL] at e2
 rw [←e2]
structure PrI (w:World) (s:ByteArray) (pre:List ByteArray) (W:World):Prop where
 r0:Blk W w.heap.size 28 #[.slice none 0 0]
 r1:Blk W (w.heap.size+1) 38 #[.int .i64 0]
 tb:∃v L,Blk W (w.heap.size+1+1) 28 #[v]∧W.ownsRow (w.heap.size+6) 141 2 v pre.length (kc L)∧L.length=pre.length∧Agree s L
 le:pre.length≤101
 bl:Below w.heap.size w W
 sz:w.heap.size+6≤W.heap.size
structure PrX (w:World) (s:ByteArray) (W:World):Prop where
 r0:Blk W w.heap.size 28 #[.slice none 0 0]
 r1:Blk W (w.heap.size+1) 38 #[.int .i64 7]
 no:∀n X Y,TabOK n X Y→s.data.toList≠txL X Y n
 bl:Below w.heap.size w W
theorem row_kept {W W':World} {base size k bs B:Nat} {e:TypeId} {v:Value} {xs:List Value} {row:Option Nat} (h:W.ownsRow base e size v k xs) (hbs:bs<base) (hg:W.grownBy W' row) (hr:∀r,row=some r→r=bs∨(B≤r∧∃o:Obj,W.heap[r]?=some o∧o.isCells=false)):W'.ownsRow base e size v k xs:=by
 refine h.kept hg ?_
 rcases h.2 with ⟨rfl,_⟩|⟨g,cap,cur,rfl,hge,hgb,_⟩
 ·exact .inl rfl
 ·refine .inr fun e'=>?_
  rcases hr g (by simpa [Value.ownBlock] using e'.symm) with h1 |⟨_,o,ho,hc⟩
  ·omega
  ·rw [hgb] at ho;cases ho;cases hc
theorem PrI.holds (w:World) (s:ByteArray) (B:Nat) (hB:w.heap.size+6≤B):Holds (w.heap.size+1+1+1) B (PrI w s):=fun pre W W' row h hg hr=>by
 have hne:∀k,k<w.heap.size+1+1+1→some k≠row:=fun k hk e=>by rcases hr k e.symm with h1 |⟨h1,_⟩<;> omega
 obtain ⟨v,L,hb,ho,hl,ha⟩:=h.tb
 exact ⟨h.r0.grown hg (hne _ (by omega)),h.r1.grown hg (hne _ (by omega)),⟨v,L,hb.grown hg (hne _ (by omega)),row_kept ho (by omega) hg hr,hl,ha⟩,h.le,
  h.bl.grown hg h.bl.size (fun k e=>by rcases hr k e with h1 |⟨h1,_⟩<;> omega),nT h.sz hg.size⟩
theorem PrX.holds (w:World) (s:ByteArray) (B:Nat) (hB:w.heap.size+6≤B):Holds (w.heap.size+1+1+1) B (fun (_:List ByteArray) W=>PrX w s W):=fun pre W W' row h hg hr=>by
 have hne:∀k,k<w.heap.size+1+1+1→some k≠row:=fun k hk e=>by rcases hr k e.symm with h1 |⟨h1,_⟩<;> omega
 exact ⟨h.r0.grown hg (hne _ (by omega)),h.r1.grown hg (hne _ (by omega)),h.no,h.bl.grown hg h.bl.size (fun k e=>by rcases hr k e with h1 |⟨h1,_⟩<;> omega)⟩
theorem app_keep {w7 w8:World} {base k:Nat} {v:Value} {xs:List Value} {tmp:Obj} (ho:w7.ownsRow base 141 2 v k xs) (hg:(w7.alloc tmp).grownBy w8 v.ownBlock):
 w7.heap.size≤w8.heap.size∧(∀j,j<base→j<w7.heap.size→w8.heap[j]?=w7.heap[j]?)∧(∀(j:Nat) (o:Obj),w7.heap[j]?=some o→o.isCells=false→w8.heap[j]?=some o)∧(∀B,B≤base→B≤w7.heap.size→Below B w7 w8):=by
 have hs:w7.heap.size≤w8.heap.size:=by have:=hg.size;simp at this;omega
 have key:∀g,v.ownBlock=some g→base≤g∧∃o:Obj,w7.heap[g]?=some o∧o.isCells=true:=fun g e=>by
  rcases ho.2 with ⟨rfl,_⟩|⟨g',cap,cur,rfl,hge,hgb,_⟩
  ·simp [Value.ownBlock] at e
  ·have:g'=g:=by simpa [Value.ownBlock] using e
   subst this
   exact ⟨hge,_,hgb,rfl⟩
 have hold:∀j,j<w7.heap.size→(w7.alloc tmp).heap[j]?=w7.heap[j]?:=fun j hj=>Below.heap_alloc _ _ _ hj
 refine ⟨hs,fun j hj hj2=>?_,fun j o hj ho'=>?_,fun B hB hB2=>?_⟩
 ·refine (hg.block j (by simp;omega) (fun e=>?_)).trans (hold j hj2)
  have:=(key j e.symm).1;omega
 ·have hlt:=(Array.getElem?_eq_some_iff.1 hj).1
  refine ((hg.block j (by simp;omega) (fun e=>?_)).trans (hold j hlt)).trans hj
  obtain ⟨_,o2,h2,h3⟩:=key j e.symm
  rw [hj] at h2;cases h2;rw [ho'] at h3;cases h3
 ·exact ((bR B w7).alloc hB2 tmp).grown hg (by simp;omega) (fun g e=>nT hB (key g e).1)
theorem own_blk_far {W:World} {base k g:Nat} {e:TypeId} {size:Nat} {v:Value} {xs:List Value} (h:W.ownsRow base e size v k xs) (hg:g<base):v= .slice none 0 0∨some g≠v.ownBlock:=by
 rcases h.2 with ⟨rfl,_⟩|⟨g',cap,cur,rfl,hge,_⟩
 ·exact .inl rfl
 ·refine .inr fun e=>?_
  have:g=g':=by simpa [Value.ownBlock] using e
  omega
theorem heap_set {W:World} {p:Addr} {u:Value} {k:Nat} (h:k≠p.block):(W.setCell p u).heap[k]?=W.heap[k]?:=Below.heap_setCell W p u k h
theorem zY6 (W:World) (p:Addr) (u:Value):(W.setCell p u).heap.size=W.heap.size:=by simp [World.setCell]
theorem two_set {W:World} {z:Nat} {T E:TypeId} {x0 x1:Value} (h0:Blk W z T #[x0]) (h1:Blk W (z+1) E #[x1]) (v0 v1:Value):
 Blk ((W.setCell ⟨z,0,none⟩ v0).setCell ⟨z+1,0,none⟩ v1) z T #[v0]∧Blk ((W.setCell ⟨z,0,none⟩ v0).setCell ⟨z+1,0,none⟩ v1) (z+1) E #[v1]:=by
 refine ⟨(h0.set_ 0 v0).far (by show z≠z+1;omega) _,(h1.far (by show z+1≠z;omega) v0).set_ 0 v1⟩
theorem PrI.bad {w W A:World} {s:ByteArray} {pre:List ByteArray} (hi:PrI w s pre W) (h:Below W.heap.size W A) (hno:∀n X Y,TabOK n X Y→s.data.toList≠txL X Y n):PrX w s ((A.setCell ⟨w.heap.size,0,none⟩ (.slice none 0 0)).setCell ⟨w.heap.size+1,0,none⟩ (.int .i64 7)):=by
 obtain ⟨a,b⟩:=two_set (hi.r0.call h) (hi.r1.call h) (.slice none 0 0) (.int .i64 7)
 exact ⟨a,b,hno,((hi.bl.trans (h.mono hi.bl.size)).setCell (p:=⟨w.heap.size,0,none⟩) (nl _) _).setCell (p:=⟨w.heap.size+1,0,none⟩) (by show w.heap.size≤w.heap.size+1;omega) _⟩
theorem PrI.app {w W w7 w8:World} {s x:ByteArray} {pre post:List ByteArray} {v v':Value} {L:List (Int×Int)} {v1 v2:Int} {tmp:Obj} {B:Nat} (hi:PrI w s pre W) (hB:w.heap.size+6≤B) (h:Below W.heap.size W w7) (hxs:words s=pre++x::post)
 (hL:L.length=pre.length) (ha:Agree s L) (h1:Lib.atoiAll (cutA x 58).data.toList= .ok v1) (h2:Lib.atoiAll (cutB x 58).data.toList= .ok v2) (hle:pre.length≤100)
 (hv:Blk w7 (w.heap.size+1+1) 28 #[v]) (ho:w7.ownsRow (w.heap.size+6) 141 2 v pre.length (kc L)) (hown:w8.ownsRow (w.heap.size+6) 141 2 v' (pre.length+1) (kc L++[.int .i64 v1,.int .i64 v2])) (hg:(w7.alloc tmp).grownBy w8 v.ownBlock):
 KeepsFrom B W (w8.setCell ⟨w.heap.size+1+1,0,none⟩ v')∧Kp3 (w.heap.size+1+1+1) W (w8.setCell ⟨w.heap.size+1+1,0,none⟩ v')∧PrI w s (pre++[x]) (w8.setCell ⟨w.heap.size+1+1,0,none⟩ v'):=by
 obtain ⟨k1,k2,k3,k4⟩:=app_keep ho hg
 have hs7:=h.size
 have hsz:=hi.sz
 have b8:Below w.heap.size w w8:=(hi.bl.trans (h.mono hi.bl.size)).trans (k4 _ (by omega) (by omega))
 have blk:∀{j:Nat} {t:TypeId} {cs:Array Value},j<w.heap.size+6→Blk w7 j t cs→Blk w8 j t cs:=fun hj hb=>(k2 _ hj hb.lt).trans hb
 refine ⟨⟨by rw [zY6];omega,fun k o hk ho' hc=>?_⟩,⟨by rw [zY6];omega,fun k hk1 hk2=>?_⟩,?_⟩
 ·rw [heap_set (by show k≠w.heap.size+1+1;omega)]
  exact k3 k o ((h.block k (Array.getElem?_eq_some_iff.1 ho').1).trans ho') hc
 ·rw [heap_set (by show k≠w.heap.size+1+1;omega)]
  exact (k2 k (by omega) (by omega)).trans (h.block k (by omega))
 ·refine ⟨(blk (by omega) (hi.r0.call h)).far (by show w.heap.size≠w.heap.size+1+1;omega) _,(blk (by omega) (hi.r1.call h)).far (by show w.heap.size+1≠w.heap.size+1+1;omega) _,⟨v',L++[(v1,v2)],(blk (by omega) hv).set_ 0 v',?_,by simp [hL],agree_step hxs hL ha h1 h2⟩,by simp;omega,b8.setCell (p:=⟨w.heap.size+1+1,0,none⟩) (by show w.heap.size≤w.heap.size+1+1;omega) _,by rw [zY6];omega⟩
  rw [kc_append,List.length_append]
  refine hown.kept (grownBy_setCell' w8 _ v') ?_
  rcases own_blk_far (g:=w.heap.size+1+1) hown (by omega) with h0 |h0
  ·exact .inl (by rw [h0];rfl)
  ·exact .inr (Ne.symm h0)
theorem zY7 (s:ByteArray):s.size=s.data.toList.length:=rfl
end Go.Proofs.YtchakniaoeodmaaGreatDoor

/- Merged texts of these proofs: Rng, Seq, TxT, PrT, Spw. -/
import Derived.RangeFuncNested
import Derived.RangeFuncBound
import Derived.RangeFuncCalls
import Derived.RangeFuncLeaves
import Derived.Test.YtghefgifhebniaaGreatDoorMgH
import Derived.Test.YtghefgifhebniaaGreatDoorShelf
import Derived.Test.YtghefgifhebniaaGreatDoorBase
import Derived.Shelf.Abstract
import Derived.Shelf.RegionOpen
import Derived.WalkKit
import Derived.OwnWalkIn
import Derived.TacticsInMore
import Derived.LoopNIn
import Derived.LoopIn
import Derived.Test.YtghefgifhebniaaGreatDoorMgZ
import Derived.Test.YtghefgifhebniaaGreatDoorMgQ
import Derived.Test.YtghefgifhebniaaGreatDoorTabTwo
import Derived.Test.YtghefgifhebniaaGreatDoorMgM
import Derived.RangeFuncBox
import Derived.Maps.AppendAt
import Derived.Lib.IndexBytes
import Derived.Lib.SplitLaws
import Derived.Shelf.Strings.SplitCore
namespace Go.Proofs.YtghefgifhebniaaGreatDoor
open Go.RowKit
set_option linter.unusedVariables false
set_option linter.unusedSimpArgs false
variable {α:Type}
def Stays (bs:Nat) (J:List α→World→Prop):Prop:=∀pre A B row,J pre A→A.grownBy B row→(∀r,row=some r→r=bs)→J pre B
def Holds (bs B:Nat) (I:List α→World→Prop):Prop:=∀pre W W' row,I pre W→W.grownBy W' row→(∀r,row=some r→r=bs∨(B≤r∧∃o:Obj,W.heap[r]?=some o∧o.isCells=false))→I pre W'
theorem Holds.put {bs B:Nat} {I:List α→World→Prop} (h:Holds bs B I) {pre:List α} {W:World} {l:Nat} {o:Obj} (o':Obj) (hs:I pre W) (hB:B≤l) (hl:W.heap[l]?=some o) (ho:o.isCells=false):I pre (W.putObj l o'):=
 h pre W _ (some l) hs (grownBy_putObj' W l o') (fun r e=>by cases e;exact .inr ⟨hB,o,hl,ho⟩)
theorem Holds.new {bs B:Nat} {I:List α→World→Prop} (h:Holds bs B I) {pre:List α} {W:World} (o:Obj) (hs:I pre W):I pre (W.alloc o):=
 h pre W _ none hs (World.grownBy_alloc W o none) (fun r e=>by cases e)
def Hands (F:Fence) (n:Nat) (P:Program) (g:Nat) (lb:Array Value) (encs:α→Array Value) (bs:Nat) (Kp:World→World→Prop) (xs:List α) (w:World):Prop:=
 ∀(l:Nat) (J:List α→World→Prop) (Jx:List α→World→Prop) (W:World),(∀k,k<w.heap.size→W.heap[k]?=w.heap[k]?)→w.heap.size≤W.heap.size→Stays bs J→
  (∀pre x post W1,xs=pre++x::post→J pre W1→YieldAt F (n - 1) P l (encs x) W1 fun e W'=>
    (e= .returned (.bool true)∧J (pre++[x]) W'∧Kp W1 W')∨(e= .returned (.bool false)∧Jx (pre++[x]) W'))→
  J [] W→
  CallsIn F n P g (#[.func (.yield l) #[] #[]]++lb) W fun e W'=>(∃v,e= .returned v)∧(J xs W'∨∃pre,Jx pre W')
def roundBy (B:Nat) (Kp:World→World→Prop) (I Ix:List α→World→Prop) (xs:List α) (W:World):Exit→Act→World→Prop
 | .normal,_,W'=>KeepsFrom B W W'∧Kp W W'∧I xs W'
 | .ret,_,W'=>KeepsFrom B W W'∧Ix xs W'
 |_,_,_=>False
variable {F:Fence} {n:Nat} {P:Program}
theorem wpIn_range_own {g:Operand} {ps:Array Tmp} {assign body:Code} {Q:Exit→Act→World→Prop} {a:Act} {w:World}
 (hro:F.round=none) (h1:1≤n) {gf:Nat} {lb:Array Value} (hg:a.eval g= .func (.func gf) #[] lb) (hFg:F.fn gf) (eg:∀args w,(callFunc gf args).run P w= .ok (.enter gf args) w)
 {encs:α→Array Value} {bs:Nat} (hbs:bs<w.heap.size) {Kp:World→World→Prop} {xs:List α} (hseq:Hands F (n - 1) P gf lb encs bs Kp xs w)
 (hKt:∀{A B C:World},Kp A B→Kp B C→Kp A C) (hKb:∀(W:World) (l:Nat) (o':Obj),w.heap.size≤l→Kp W (W.putObj l o')) (hps:∀x,(encs x).size=ps.size)
 (I Ix:List α→World→Prop) (hI:Holds bs w.heap.size I) (hIx:Holds bs w.heap.size Ix) (h0:I [] w) (a₁:α→Act)
 (hassign:∀(l:Nat) (x:α) (W:World) (K:Act→World→Prop),K (a₁ x) W→
   assign.wpIn (F.inRound l) (n - 1 - 1) P (Exit.then K (fun _ _ _=>False)) { tmps:=(ps.zip (encs x)).foldl (fun t (p,v)=>t.setIfInBounds p v) a.tmps,defers:=[] } W)
 (hbody:∀(l:Nat) (pre:List α) (x:α) (post:List α) (W:World),xs=pre++x::post→I pre W→body.wpIn (F.inRound l) (n - 1 - 1) P (roundBy w.heap.size Kp I Ix (pre++[x]) W) (a₁ x) W)
 (hdone:∀(D:Nat) (W:World),w.heap.size≤D→I xs W→W.heap[D]?=some (.deferred (some []))→Q .normal { a with defers:={ target:=.collected D,args:=#[] }::a.defers } W)
 (hstop:∀(D:Nat) (pre:List α) (W:World),w.heap.size≤D→Ix pre W→W.heap[D]?=some (.deferred (some []))→Code.ret.wpIn F n P Q { a with defers:={ target:=.collected D,args:=#[] }::a.defers } W):
 (Code.rangeFunc g ps assign body).wpIn F n P Q a w:=by
 refine wpIn_rangeFunc fun fn hfn=>?_
 rw [hro]
 let z:=w.heap.size
 let rec_:LoopState→Option Code→Loop:=fun st pe=>{ state:=st,pending:=pe,fn,tmps:=a.tmps,params:=ps,assign,body,defers:=z }
 obtain ⟨R,hR⟩:∃R,R=rec_:=⟨_,rfl⟩
 obtain ⟨V,hV⟩:∃V,V=(w.alloc (.deferred (some []))).alloc (.loop (R .ready none)):=⟨_,rfl⟩
 have hrun:=run_enterLoop_outer (P:=P) (w:=w) fn a.tmps ps assign body
 have hVl:V.heap[z+1]?=some (.loop (R .ready none)):=by
  have:=World.alloc_heap_new (w.alloc (.deferred (some []))) (.loop (R .ready none))
  rw [World.size_alloc] at this
  rw [hV];exact this
 have hVk:V.heap[z]?=some (.deferred (some [])):=by
  rw [hV];exact (Below.heap_alloc _ _ _ (by simp [z])).trans (World.alloc_heap_new w _)
 have hVI:I [] V:=by rw [hV];exact hI.new _ (hI.new _ h0)
 have hVs:V.heap.size=z+2:=by rw [hV];simp [z]
 refine ⟨z+1,[{ target:=.collected z,args:=#[] }],V,{ target:=.fn (.func gf) lb,args:=#[.func (.yield (z+1)) #[] #[]] },V,gf,#[.func (.yield (z+1)) #[] #[]]++lb,V,?_,?_,?_,?_,fun _=>h1,?_⟩
 ·rw [hV,hR];exact hrun
 ·simp only [resolve,hg]
  simp [go_sem]
 ·intro f' hf'
  simp [Target.leads] at hf'
  exact hf' ▸ hFg
 ·simp [invoke,go_sem,eg]
 -- what stands beside the caller's invariant: the record is ready, or done with the return pending; the block of deferred calls is empty
 have keep:∀{A B:World} {row:Option Nat} {k:Nat} {o:Obj},A.grownBy B row→(∀r,row=some r→r=bs)→z≤k→A.heap[k]?=some o→B.heap[k]?=some o:=fun hg' hr hk ho=>
  (hg'.block _ (Array.getElem?_eq_some_iff.1 ho).1 (fun e=>by have:=hr _ e.symm;have:bs<z:=hbs;omega)).trans ho
 refine (hseq (z+1)
  (fun pre W=>I pre W∧W.heap[z+1]?=some (.loop (R .ready none))∧W.heap[z]?=some (.deferred (some [])))
  (fun pre W=>Ix pre W∧W.heap[z+1]?=some (.loop (R .done (some .ret)))∧W.heap[z]?=some (.deferred (some [])))
  V (fun k hk=>by rw [hV];exact (Below.heap_alloc _ _ _ (by simp;omega)).trans (Below.heap_alloc _ _ _ hk)) (by omega)
  (fun pre A B row hs hg' hr=>⟨hI pre A B row hs.1 hg' (fun r e=>.inl (hr r e)),keep hg' hr (by omega) hs.2.1,keep hg' hr (nl _) hs.2.2⟩)
  ?_ ⟨hVI,hVl,hVk⟩).mono ?_
 · -- a round
   rintro pre x post W hxs ⟨hi,hl,hk⟩
   have hlt:z+1<W.heap.size:=(Array.getElem?_eq_some_iff.1 hl).1
   have hy:=run_yield (P:=P) (args:=encs x) hl (by rw [hR];exact hps x)
   rw [hR] at hy
   refine ⟨fn,_,assign,body,hy,roundIn_of_wpIn hfn (hassign _ x W _ ⟨_,run_beginRound hl (by rw [hR]),?_⟩)⟩
   obtain ⟨U,hU⟩:∃U,U=W.putObj (z+1) (.loop { R .ready none with state:=.busy }):=⟨_,rfl⟩
   rw [←hU]
   have hUl:U.heap[z+1]?=some (.loop { R .ready none with state:=.busy }):=by rw [hU];exact World.putObj_heap_same hlt
   have hUk:U.heap[z]?=some (.deferred (some [])):=by rw [hU];exact (World.putObj_heap_other (by omega)).trans hk
   have hUI:I pre U:=by rw [hU];exact hI.put _ hi (by omega) hl rfl
   have hKU:Kp W U:=by rw [hU];exact hKb _ _ _ (by omega)
   refine wpIn_mono (hbody _ pre x post U hxs hUI) ?_
   have fin:∀(jump:Option Code) (X:World),KeepsFrom z U X→∃Y,(Instr.endRound (z+1) jump).run P X= .ok (.bool jump.isNone) Y∧Y=X.putObj (z+1) (.loop (R (if jump.isNone then .ready else .done) jump))∧X.heap[z+1]?=some (.loop { R .ready none with state:=.busy })∧Y.heap[z+1]?=some (.loop (R (if jump.isNone then .ready else .done) jump))∧Y.heap[z]?=some (.deferred (some [])):=fun jump X hX=>by
    have hXl:=hX.same _ _ (by omega) hUl rfl
    refine ⟨_,?_,rfl,hXl,World.putObj_heap_same (Array.getElem?_eq_some_iff.1 hXl).1,(World.putObj_heap_other (by omega)).trans (hX.same _ _ (nl _) hUk rfl)⟩
    have:=run_endRound (P:=P) jump hXl
    rw [hR] at this⊢
    exact this
   intro e a3 X hp
   cases e with
   |normal=>
    obtain ⟨hX,hKX,hIX⟩:=hp
    obtain ⟨Y,hr,hY,hXl,hYl,hYk⟩:=fin none X hX
    refine ⟨_,Y,hr,.inl ⟨rfl,⟨?_,hYl,hYk⟩,?_⟩⟩
    ·rw [hY];exact hI.put _ hIX (by omega) hXl rfl
    ·rw [hY];exact hKt (hKt hKU hKX) (hKb _ _ _ (by omega))
   |ret=>
    obtain ⟨hX,hIX⟩:=hp
    obtain ⟨Y,hr,hY,hXl,hYl,hYk⟩:=fin (some .ret) X hX
    refine ⟨_,Y,hr,.inr ⟨rfl,?_,hYl,hYk⟩⟩
    rw [hY];exact hIx.put _ hIX (by omega) hXl rfl
   |exit id=>exact hp.elim
   |goto t=>exact hp.elim
   |panic ch=>exact hp.elim
   |outgrown=>exact hp.elim
 · -- behind the closure
   rintro e X ⟨⟨v,rfl⟩,h⟩
   rcases h with ⟨hi,hl,hk⟩|⟨pre,hi,hl,hk⟩
   ·have hend:=run_endLoop (P:=P) hl (by rw [hR];simp [rec_])
    rw [hR] at hend
    exact ⟨none,_,hend,hdone z _ (nl _) (hI.put _ hi (by omega) hl rfl) ((World.putObj_heap_other (by omega)).trans hk)⟩
   ·have hend:=run_endLoop (P:=P) hl (by rw [hR];simp [rec_])
    rw [hR] at hend
    exact ⟨some .ret,_,hend,hstop z pre _ (nl _) (hIx.put _ hi (by omega) hl rfl) ((World.putObj_heap_other (by omega)).trans hk)⟩
open Go.RowKit Go.Shelf
attribute [local go_sem] Oper.semAt_some
structure SpAt (w:World) (b:Nat) (s:ByteArray):Prop where
 lt:b+2<w.heap.size
 s0:w.cell? ⟨b,0,none⟩=some (.string s)
 f0:w.frozen? ⟨b,0,none⟩=false
 s1:w.cell? ⟨b+1,0,none⟩=some (.string ⟨#[32]⟩)
 s2:w.cell? ⟨b+2,0,none⟩=some (.int .i64 0)
def Kp3 (b:Nat) (A B:World):Prop:=A.heap.size≤B.heap.size∧∀k,b≤k→k≤b+2→B.heap[k]?=A.heap[k]?
theorem Kp3.t {b:Nat} {A B C:World} (h:Kp3 b A B) (h':Kp3 b B C):Kp3 b A C:=⟨nT h.1 h'.1,fun k h1 h2=>(h'.2 k h1 h2).trans (h.2 k h1 h2)⟩
theorem SpAt.keep {w w':World} {b:Nat} {s:ByteArray} (h:SpAt w b s) (k:Kp3 b w w'):SpAt w' b s:=
 ⟨Nat.lt_of_lt_of_le h.lt k.1,(World.cell?_of_block (k.2 b (nl _) (by omega))).trans h.s0,(World.frozen?_of_block (k.2 b (nl _) (by omega))).trans h.f0,(World.cell?_of_block (k.2 (b+1) (by omega) (by omega))).trans h.s1,(World.cell?_of_block (k.2 (b+2) (by omega) (by omega))).trans h.s2⟩
theorem SpAt.put {w:World} {b:Nat} {s:ByteArray} (h:SpAt w b s) (r:ByteArray):SpAt (w.setCell ⟨b,0,none⟩ (.string r)) b r:=
 ⟨by have:(w.setCell ⟨b,0,none⟩ (.string r)).heap.size=w.heap.size:=by simp [World.setCell]
     rw [this];exact h.lt,
  World.cell?_setCell_same' _ _ _ (by rw [h.s0];rfl),by rw [World.frozen?_setCell];exact h.f0,(World.cell?_setCell_other w ⟨b,0,none⟩ ⟨b+1,0,none⟩ _ (by simp)).trans h.s1,(World.cell?_setCell_other w ⟨b,0,none⟩ ⟨b+2,0,none⟩ _ (by simp)).trans h.s2⟩
def left (b:Nat) (w:World):Nat:=match w.cell? ⟨b,0,none⟩ with |some (.string r)=>r.size+1 |_=>0
theorem left_eq {w:World} {b:Nat} {s:ByteArray} (h:SpAt w b s):left b w=s.size+1:=by unfold left;rw [h.s0]
def zC2 (s:ByteArray):List ByteArray:=(wds s.data.toList).map fun l=>⟨l.toArray⟩
theorem bytes_of (s:ByteArray):(⟨s.data.toList.toArray⟩:ByteArray)=s:=by obtain ⟨⟨l⟩⟩:=s;rfl
theorem zG3 (l:List UInt8) (c:UInt8):(c∉l∧Lib.indexByte l c= -1)∨∃a b,l=a++c::b∧c∉a∧Lib.indexByte l c=(a.length:Int):=by
 induction l with
 |nil=>exact .inl ⟨by simp,rfl⟩
 |cons x l ih=>
  unfold Lib.indexByte
  by_cases h:x=c
  ·subst h
   exact .inr ⟨[],l,rfl,by simp,by simp⟩
  ·have h1:(x==c)=false:=by simp [h]
   rw [h1]
   simp only [Bool.false_eq_true,if_false]
   rcases ih with ⟨hn,e⟩|⟨a,b,e1,e2,e3⟩
   ·exact .inl ⟨by simp [hn,Ne.symm h],by rw [e];rfl⟩
   ·refine .inr ⟨x::a,b,by rw [e1];rfl,by simp [e2,Ne.symm h],?_⟩
    rw [e3]
    have:((a.length:Int)== -1)=false:=by simp<;> omega
    rw [this]
    simp
theorem words_cases (s:ByteArray):(Lib.indexByte s.data.toList 32= -1∧zC2 s=[s])∨∃k:Nat,Lib.indexByte s.data.toList 32=(k:Int)∧k<s.size∧zC2 s=s.extract 0 k::zC2 (s.extract (k+1) s.size):=by
 rcases zG3 s.data.toList 32 with ⟨h,e⟩|⟨a,b,e1,e2,e3⟩
 ·exact .inl ⟨e,by unfold zC2;rw [zD9 h];simp [bytes_of]⟩
 ·have hsz:s.size=a.length+1+b.length:=by
   have:s.size=s.data.toList.length:=(Array.length_toList (xs:=s.data)).symm
   rw [this,e1,List.length_append,List.length_cons];omega
  refine .inr ⟨a.length,e3,by omega,?_⟩
  have ea:s.extract 0 a.length=⟨a.toArray⟩:=by
   apply ByteArray.ext
   rw [ByteArray.data_extract]
   apply Array.ext'
   rw [Array.toList_extract,e1]
   simp
  have eb:(s.extract (a.length+1) s.size).data.toList=b:=by
   rw [ByteArray.data_extract,Array.toList_extract,e1]
   simp [hsz]
  unfold zC2
  rw [eb,e1,wds_first e2,ea]
  rfl
set_option maxHeartbeats 1000000 in
theorem tsplit (s:ByteArray) (w:World):Calls Tryz.prog 183 #[.string s,.string ⟨#[32]⟩] w fun e w'=>
 e= .returned (.func (.func 219) #[] #[.pointer (some ⟨w.heap.size+1,0,none⟩),.pointer (some ⟨w.heap.size,0,none⟩),.pointer (some ⟨w.heap.size+2,0,none⟩)])∧SpAt w' w.heap.size s∧Below w.heap.size w w'∧w'.heap.size=w.heap.size+3:=by
 have S:=LH (show∀w:World,Calls Tryz.prog 205 #[.string s,.string ⟨#[32]⟩,.int .i64 0] w fun e w'=>
  e= .returned (.func (.func 219) #[] #[.pointer (some ⟨w.heap.size+1,0,none⟩),.pointer (some ⟨w.heap.size,0,none⟩),.pointer (some ⟨w.heap.size+2,0,none⟩)])∧SpAt w' w.heap.size s∧Below w.heap.size w w'∧w'.heap.size=w.heap.size+3 from fun w=>by
   go_enter Tryz.func205,Tryz.ntmps205
   go_wp2_with fail
   go_ret
   have d0:=((Blk.new w 9 #[.string s]).alloc (.cells #[.string ⟨#[32]⟩] 9)).alloc (.cells #[.int .i64 0] 3)
   have d1:=(Blk.new (w.alloc (.cells #[.string s] 9)) 9 #[.string ⟨#[32]⟩]).alloc (.cells #[.int .i64 0] 3)
   have d2:=Blk.new ((w.alloc (.cells #[.string s] 9)).alloc (.cells #[.string ⟨#[32]⟩] 9)) 3 #[.int .i64 0]
   simp only [World.size_alloc] at d1 d2
   exact ⟨rfl,⟨by simp,d0.cell 0,d0.frozen 0,d1.cell 0,d2.cell 0⟩,(((bR _ w).alloc (nl _) _).alloc (by simp) _).alloc (by simp<;> omega) _,by simp⟩)
 go_enter Tryz.func183,Tryz.ntmps183
 go_wp2_with (first |(go_at_call 205;(with_reducible refine (S.out _).mono ?_);rintro e w' ⟨rfl,hs,hb,hz⟩))
 go_ret
 exact ⟨rfl,hs,hb,hz⟩
set_option maxHeartbeats 2000000 in
theorem split_hands (s:ByteArray) (hs:s.size≤8388608) (b:Nat) (w:World) (hw:SpAt w b s):
 Hands Fence.wide 3 Tryz.prog 219 #[.pointer (some ⟨b+1,0,none⟩),.pointer (some ⟨b,0,none⟩),.pointer (some ⟨b+2,0,none⟩)] (fun x:ByteArray=>#[.string x]) b (Kp3 b) (zC2 s) w:=by
 intro l J Jx W hW hsz hJ hY h0
 have HJ:=LH hJ
 have HY:=LH hY
 have hWs:SpAt W b s:=hw.keep ⟨hsz,fun k h1 h2=>hW k (by have:=hw.lt;omega)⟩
 have HH:=LH h0
 clear hJ hY hW hsz hw h0
 refine callsIn_of_wp Tryz.func219 rfl trivial ?_ rfl
 simp only [Tryz.ntmps219,List.size_toArray,List.length_cons,List.length_nil,Nat.reduceAdd,Nat.reduceSub,Array.replicate_succ,Array.replicate_zero,List.push_toArray,List.append_toArray,List.nil_append,List.cons_append]
 have c1:=hWs.s1
 gi_wp2_with fail
 gi_loopw [7] (fun y wr=>∃(pre:List ByteArray) (r:ByteArray),Hid (zC2 s=pre++zC2 r)∧Hid (r.size≤s.size)∧SpAt wr b r∧Hid (J pre wr)) (fun y wr=>left b wr)
 case atStart=>exact ⟨[],s,rfl,nl _,hWs,HH⟩
 case round=>
  obtain ⟨pre,r,Hx,Hr,hw,Hj⟩:=hrel
  have c0:=hw.s0
  have c1:=hw.s1
  have c2:=hw.s2
  have cf:=hw.f0
  have S:=LH fun w=>Tryz.strings_Index_one r 32 w
  rcases words_cases r with ⟨hi,hwr⟩|⟨k,hi,hk,hwr⟩
  ·rw [hi] at S
   have hx:zC2 s=pre++r::[]:=by rw [Hx.out,hwr]
   obtain ⟨fn,tmps,assign,body,hy,hR⟩:=HY.out pre r [] wr hx Hj.out
   have HR:=LH hR
   clear hR hi hwr
   gi_wp2_with (refine ⟨trivial,?_⟩;gi_at_call 130;refine (callsIn_wide.2 (S.out _)).mono ?_;rintro e w' ⟨rfl,rfl⟩)
   refine HR.out.mono ?_
   rintro e W' (⟨rfl,hJ',_⟩|⟨rfl,hJ'⟩)
   ·gi_wp2
    go_end0
    exact ⟨⟨_,rfl⟩,.inl (by rw [hx];exact hJ')⟩
   ·gi_wp2
    go_end0
    exact ⟨⟨_,rfl⟩,.inr ⟨_,hJ'⟩⟩
  ·rw [hi] at S
   obtain ⟨x,hx⟩:∃z,r.extract 0 k=z:=⟨_,rfl⟩
   obtain ⟨k1,hk1⟩:∃z,z=k+1:=⟨_,rfl⟩
   rw [←hk1] at hwr
   obtain ⟨r',hr'⟩:∃z,r.extract k1 r.size=z:=⟨_,rfl⟩
   rw [hx,hr'] at hwr
   have hxs:zC2 s=pre++x::zC2 r':=by rw [Hx.out,hwr]
   obtain ⟨fn,tmps,assign,body,hy,hR⟩:=HY.out pre x (zC2 r') wr hxs Hj.out
   have HR:=LH hR
   have hrs:r'.size+k1=r.size:=by rw [←hr',ByteArray.size_extract];omega
   have t0:decide ((k:Int)<0)=false:=dF (by omega)
   have t1:k≤r.size:=by omega
   have t2:(k:Int)≤(r.size:Int):=by omega
   have t3:IntKind.i64.wrap ((k:Int)+0)=(k:Int):=by have:=Hr.out;rw [IntKind.wrap_i64];omega
   have t3':IntKind.i64.wrap (k:Int)=(k:Int):=by have:=Hr.out;rw [IntKind.wrap_i64];omega
   have t4:IntKind.i64.wrap ((k:Int)+1)=(k1:Int):=by have:=Hr.out;rw [IntKind.wrap_i64];omega
   have t5:k1≤r.size:=by omega
   have t6:(k1:Int)≤(r.size:Int):=by omega
   have HZ:=LH hrs
   have H1:=LH hk1
   have Hxs:=LH hxs
   clear hR hi hwr hrs hk hk1 hxs
   gi_wp2_with (refine ⟨trivial,?_⟩;gi_at_call 130;refine (callsIn_wide.2 (S.out _)).mono ?_;rintro e w' ⟨rfl,rfl⟩)
   refine HR.out.mono ?_
   rintro e W' (⟨rfl,hJ',hK'⟩|⟨rfl,hJ'⟩)
   ·have hw':=hw.keep hK'
    have c0':=hw'.s0
    have c1':=hw'.s1
    have cf':=hw'.f0
    have HS:Hid (SpAt (W'.setCell ⟨b,0,none⟩ (.string r')) b r'):=hw'.put r'
    have HM:Hid (left b (W'.setCell ⟨b,0,none⟩ (.string r'))<left b w'):=by show _<_;rw [left_eq hw,left_eq HS.out];have:=HZ.out;have:=H1.out;omega
    have HJ2:Hid (J (pre++[x]) (W'.setCell ⟨b,0,none⟩ (.string r'))):=HJ.out _ _ _ (some b) hJ' (grownBy_setCell' _ _ _) (fun q e=>by cases e;rfl)
    clear hJ' hw hw' c0 c1 c2 cf hy hK'
    gi_wp2_with fail
    go_roundw
    case rel=>exact ⟨pre++[x],r',by show _=_;rw [Hxs.out];simp,by show _≤_;have:=HZ.out;have:=Hr.out;omega,HS.out,HJ2⟩
    case measure=>exact HM.out
   ·gi_wp2
    refine bodyPost_ret (results_none rfl _ _ _) rfl ?_
    exact ⟨⟨_,rfl⟩,.inr ⟨_,hJ'⟩⟩
def kst (X Y:Nat→Int) (n:Nat):List ByteArray:=(List.range n).map fun k=>⟨(ktx (X k) (Y k)).toArray⟩
theorem kst_succ (X Y:Nat→Int) (n:Nat):kst X Y (n+1)=kst X Y n++[⟨(ktx (X n) (Y n)).toArray⟩]:=by unfold kst;rw [List.range_succ,List.map_append];rfl
theorem kst_len (X Y:Nat→Int) (n:Nat):(kst X Y n).length=n:=by simp [kst]
theorem kst_at (X Y:Nat→Int) {n k:Nat} (h:k<n):(kst X Y n).getD k ByteArray.empty=⟨(ktx (X k) (Y k)).toArray⟩:=by simp [kst,List.getD,h]
theorem jn_kst (X Y:Nat→Int):∀n,jn (kst X Y n)=txL X Y n
 |0=>rfl
 |n+1=>by
  rw [kst_succ]
  show _=(if 0<n then txL X Y n++[32] else txL X Y n)++ktx (X n) (Y n)
  by_cases h:n=0
  ·subst h
   rw [if_neg (by omega)]
   show jn ([]++[_])=_
   rw [List.nil_append,zI0]
   rfl
  ·rw [jn_snoc (by intro e;have:=kst_len X Y n;rw [e] at this;simp at this;omega),jn_kst X Y n,if_pos (by omega)]
   simp
theorem wl_kst (X Y:Nat→Int) (n:Nat):wl (fun k=>(kst X Y n).getD k ByteArray.empty) n=kst X Y n:=by
 unfold wl
 conv=>rhs;unfold kst
 apply List.map_congr_left
 intro k hk
 exact kst_at X Y (List.mem_range.1 hk)
theorem inB_near {v:Int} (h:inB v):near v:=by unfold inB at h;unfold near;omega
theorem TabOK.near {n:Nat} {X Y:Nat→Int} (h:TabOK n X Y) (k:Nat) (hk:k<n):near (X k)∧near (Y k):=⟨inB_near (h.2.2 k hk).1,inB_near (h.2.2 k hk).2.1⟩
theorem itoa_size {v:Int} (h:near v):(⟨(Lib.itoa v).toArray⟩:ByteArray).size≤19:=itoa_len h
theorem tjoin (A:Option Addr) (n c:Nat) (X:Nat→ByteArray) (hnc:n≤c) (h40:n≤101) (h6:∀i,i<n→(X i).size≤600) (w:World) (ht:StrIn w A n X):
 Calls Tryz.prog 50 #[.slice A n c,.string ⟨#[32]⟩] w fun e w'=>e= .returned (.string ⟨(jn (wl X n)).toArray⟩)∧Below w.heap.size w w':=by
 rcases ht.2 with h0 |⟨b,o,rfl,h⟩
 ·subst h0
  refine (Tryz.strings_Join_none A c ⟨#[32]⟩ w).mono ?_
  rintro e w' ⟨he,rfl⟩
  exact ⟨he,bR _ _⟩
 ·have hlen:=jn_len X 600 n h6
  have hl:(wl X n).length=n:=by simp [wl]
  have hm:=Nat.mul_le_mul_right 601 h40
  have:=Tryz.strings_Join b o c (wl X n) ⟨#[32]⟩ w (fun j x hj=>by
   have hjn:j<n:=by
        have:=(List.getElem?_eq_some_iff.1 hj).1
        omega
   have hx:x=X j:=by
        unfold wl at hj
        simp [hjn] at hj
        exact hj.symm
   rw [hx];exact h.2 j hjn) h.1 (by omega) (by omega) (by
   show (jn (wl X n)).length≤_
   omega)
  rw [hl] at this
  exact this
theorem RMem.strs {w wr:World} {u:Value} {N:Nat} {R:List ByteArray} (h:RMem w wr u N R) (hN:N=R.length) (hb:N≤300):∃A cap,u= .slice A N cap∧N≤cap∧StrIn wr A N (fun k=>R.getD k ByteArray.empty):=by
 rcases h.1.2 with ⟨hv,h0⟩|⟨g,cap,cur,hv,_,_,hnc,_⟩
 ·exact ⟨none,0,by rw [hv,h0],by omega,⟨by omega,.inl h0⟩⟩
 ·have hown:=h.1
  rw [hv,hN] at hown
  exact ⟨some ⟨g,0,none⟩,cap,hv,hnc,⟨by omega,.inr ⟨g,0,rfl,by rw [hN];exact zF6 hown⟩⟩⟩
theorem blk_app {w wx w':World} {u:Value} {N g:Nat} {R:List ByteArray} {t:TypeId} {cs cs':Array Value} (h:Blk wx g t cs) (hm:RMem w wx u N R) (hne:9≠t) (hg:(wx.alloc (.cells cs' 9)).grownBy w' u.ownBlock):Blk w' g t cs:=by
 refine (h.alloc _).grown hg fun e=>?_
 rcases hm.1.2 with ⟨hv,_⟩|⟨g',cap,cur,hv,_,hgb,_⟩
 ·rw [hv] at e;simp [Value.ownBlock] at e
 ·rw [hv] at e
  have e2:g=g':=by simpa [Value.ownBlock] using e
  subst e2
  have h1:=(show wx.heap[g]?=_ from h).symm.trans hgb
  simp at h1
  exact hne h1.2.symm
theorem h63_t {n:Nat} (h:n≤300):n+1≤maxLen:=by simp only [maxLen];omega
theorem hby_t {n:Nat} (h:n≤300):(n+1)*16≤140737488355328:=by omega
theorem ttext_bad (A:Option Addr) (n c:Nat) (X Y:Nat→Int) (w:World) (h:TabIn w A n X Y) (hb:¬TabOK n X Y):
 Calls Tryz.prog 160 #[.slice A n c] w fun e w'=>e= .returned (.tuple #[.string ⟨#[]⟩,.int .i64 1])∧Below w.heap.size w w':=by
 have S:=tvalid_any A n c X Y w h
 rw [zE9 hb] at S
 have S1:=LH S
 clear S h hb
 go_enter Tryz.func160,Tryz.ntmps160
 go_wp2_with (first |(go_at_call 112;(with_reducible refine (S1.out).mono ?_);rintro e w2 ⟨rfl,hb2⟩;have HB2:=LH hb2;clear hb2))
 go_ret2
 exact ⟨rfl,HB2.out⟩
set_option maxRecDepth 100000 in
set_option maxHeartbeats 4000000 in
theorem ttext (b off n c:Nat) (X Y:Nat→Int) (w:World) (hok:TabOK n X Y) (ht:TabAt w b off n X Y) (hE:Env w):
 Calls Tryz.prog 160 #[.slice (some ⟨b,off,none⟩) n c] w fun e w'=>e= .returned (.tuple #[.string ⟨(txL X Y n).toArray⟩,.int .i64 0])∧Below w.heap.size w w':=by
 have hbw:=ht.1
 have HT:=LH ht
 have HE:=LH hE
 have HOK:=LH hok
 have S:=tvalid b off n c X Y w hok.1 hok.2.1 ht
 rw [zF8 hok] at S
 have S1:=LH S
 have SJ:=LH fun A c hnc w hs=>tjoin A n c (fun k=>(kst X Y n).getD k ByteArray.empty) hnc (by have:=hok.2.1;omega) (fun k hk=>by
  rw [kst_at X Y hk]
  show (ktx (X k) (Y k)).length≤600
  have h1:=itoa_len (hok.near k hk).1
  have h2:=itoa_len (hok.near k hk).2
  unfold ktx
  simp only [List.length_append,List.length_cons]
  omega) w hs
 rw [wl_kst,jn_kst] at SJ
 have HN:=LH hok.2.1
 obtain ⟨SI0,si0,sz0,sz1,sz2⟩:=zA8 infoS
 have SI1:=LH si0
 have SI2:=LH sz0
 have SI3:=LH sz1
 have SI4:=LH sz2
 clear si0 sz0 sz1 sz2 S hok hE ht
 go_enter Tryz.func160,Tryz.ntmps160
 go_wp2_with (first |(go_at_call 112;(with_reducible refine (S1.out).mono ?_);rintro e w2 ⟨rfl,hb2⟩;have HB2:=LH hb2;clear hb2))
 go_loopw [4,12] (fun u v wr=>∃(i:Nat),Hid (i≤n)∧v= .int .i64 i∧Hid (RMem w2 wr u i (kst X Y i))) (fun _ v _=>n - (intOf v).toNat)
 case atStart=>exact ⟨0,Nat.zero_le _,rfl,World.ownsRow_nil _ _ _ _,bR _ _⟩
 case round=>
  obtain ⟨i,Hi,rfl,HQ⟩:=hrel
  obtain ⟨A8,cap8,h8⟩:=HQ.out.form
  subst h8
  have HWr:=LH (zA1 HB2.out HQ.out.2)
  by_cases hlt:i<n
  case neg=>
   have hin:i=n:=by have:=Hi.out;omega
   subst hin
   obtain ⟨A9,cap9,h9,h10,h11⟩:=HQ.out.strs (kst_len X Y i).symm (by have:=HN.out;omega)
   cases h9
   have SJ2:=LH (SJ.out A8 cap8 h10 wr h11)
   have T0:decide ((i:Int)<(i:Int))=false:=by simp
   clear hlt h10 h11 HQ SJ
   go_wp2_with (first |(go_at_call 50;(with_reducible refine (SJ2.out).mono ?_);rintro e w3 ⟨rfl,hb3⟩;have HB3:=LH hb3;clear hb3))
   go_ret2
   exact ⟨rfl,zA1 HWr.out HB3.out⟩
  have T0:decide ((i:Int)<(n:Int))=true:=by simp<;> omega
  have T0':decide (i<n)=true:=dT hlt
  obtain ⟨i',hi'⟩:∃z,z=i+1:=⟨_,rfl⟩
  have x0:IntKind.i64.wrap ((i:Int)+1)=(i':Int):=by have:=HN.out;rw [IntKind.wrap_i64];omega
  have HI':Hid (i'≤n):=by show i'≤n;omega
  have HMS:Hid (n - (RowKit.intOf (Value.int .i64 (i':Int))).toNat<n - (RowKit.intOf (Value.int .i64 (i:Int))).toNat):=by show _<_;simp [RowKit.intOf];omega
  have k0:(0:Int)≤(i:Int):=by omega
  have k1:(i:Int)<(n:Int):=by omega
  have HII:Hid (i+1=i'):=hi'.symm
  have HTr:=HT.out.below HWr.out hbw
  have hx1:=(HTr.2 i hlt).1
  have hy1:=(HTr.2 i hlt).2
  have hn1:=(HOK.out.near i hlt).1
  have hn2:=(HOK.out.near i hlt).2
  have L1:=LH fun w hE=>titoa (X i) (by unfold near at hn1;omega) (by unfold near at hn1;omega) w hE
  have L2:=LH fun w hE=>titoa (Y i) (by unfold near at hn2;omega) (by unfold near at hn2;omega) w hE
  have z1:=itoa_size hn1
  have z2:=itoa_size hn2
  have EQ:Hid (((⟨(Lib.itoa (X i)).toArray⟩:ByteArray)++⟨#[58]⟩)++⟨(Lib.itoa (Y i)).toArray⟩=⟨(ktx (X i) (Y i)).toArray⟩):=by
   show _=_
   apply ByteArray.ext
   apply Array.ext'
   simp [ByteArray.data_append,ktx]
  have HER:=LH (HE.out.below HWr.out)
  generalize (⟨(Lib.itoa (X i)).toArray⟩:ByteArray)=x1 at L1 z1 EQ
  generalize (⟨(Lib.itoa (Y i)).toArray⟩:ByteArray)=x2 at L2 z2 EQ
  have HKS:Hid (kst X Y i'=kst X Y i++[(x1++⟨#[58]⟩)++x2]):=by show _=_;rw [hi',kst_succ,EQ.out]
  obtain ⟨s1,e1q⟩:∃z:ByteArray,x1++⟨#[58]⟩=z:=⟨_,rfl⟩
  rw [e1q] at HKS
  have sb1:s1.size≤20:=by rw [←e1q,ByteArray.size_append];show x1.size+1≤20;omega
  obtain ⟨l1,e2q⟩:∃z:ByteArray,s1++x2=z:=⟨_,rfl⟩
  rw [e2q] at HKS
  have v1:((x1.size:Nat):Int)≤8388608:=by omega
  have v2:((x2.size:Nat):Int)≤8388608:=by omega
  have v3:((s1.size:Nat):Int)≤8388608:=by omega
  have lm1:¬9223372036854775807<x1.size+1:=by omega
  have lm2:¬9223372036854775807<s1.size+x2.size:=by omega
  have HIN:=LH (show i≤100 by have:=HN.out;omega)
  clear hi' hlt EQ z1 z2 sb1 hn1 hn2 HTr
  go_upto_region 7 with fail
  have hal:Below wr.heap.size wr (wr.alloc (Obj.cells #[.int .i64 (X i),.int .i64 (Y i)] 97)):=(bR _ wr).alloc (nl _) _
  have HBG:=LH (Blk.new wr 97 #[.int .i64 (X i),.int .i64 (Y i)])
  have HQ4:=LH (HQ.out.call hal)
  have HW4:=LH (zA1 HWr.out hal)
  have HE4:=LH (HER.out.below hal)
  clear hal hx1 hy1
  generalize wr.alloc (Obj.cells #[.int .i64 (X i),.int .i64 (Y i)] 97)=w4 at HBG HQ4 HW4 HE4⊢
  generalize wr.heap.size=G at HBG⊢
  clear HQ HWr HER
  have HS:Hid (∀w',Below w4.heap.size w4 w'→w'.cell? ⟨G,0,none⟩=some (.int .i64 (X i))∧w'.cell? ⟨G,1,none⟩=some (.int .i64 (Y i))):=fun w' hb=>⟨(HBG.out.call hb).cell 0,(HBG.out.call hb).cell 1⟩
  have hs0:=HS.out w4 (bR _ _)
  go_region_held3 (fun w'=>w'.cell? ⟨G,0,none⟩=some (.int .i64 (X i))∧w'.cell? ⟨G,1,none⟩=some (.int .i64 (Y i))) (first
   |exact hs0
   |exact y0
   |exact HS.out _ hq6
   |exact HS.out _ (hq6.alloc hq6.size _)
   |exact HS.out _ hq5
   |exact HS.out _ (bR _ w4).drew
   |exact HS.out _ hq6.drew
   |exact HS.out _ hq5.drew
   |exact HS.out _ (hq6.drew.alloc hq6.size _)) (first
   |(go_at_call 155
     with_reducible refine (L1.out _ ?_).mono ?_
     focus (first |exact HE4.out |exact HE4.out.below (bR _ w4).drew)
     rintro e w5 ⟨rfl,hb5⟩
     have hq5:Below w4.heap.size w4 w5:=by first |exact hb5 |exact (bR _ w4).drew.trans hb5
     clear hb5)
   |(go_at_call 155
     with_reducible refine (L2.out _ ?_).mono ?_
     focus (first |exact HE4.out.below hq5 |exact HE4.out.below hq5.drew)
     rintro e w6 ⟨rfl,hb6⟩
     have hq6:Below w4.heap.size w4 w6:=by first |exact hq5.trans (hb6.mono hq5.size)|exact hq5.drew.trans (hb6.mono hq5.size)
     have HQ6:=LH (HQ4.out.call hq6)
     have HBG6:=LH (HBG.out.call hq6)
     clear hb6)
   |((refine step_append_lies _ (by rfl) _ _ _ (by rfl) w2.heap.size 9 SI0 (.string ByteArray.empty) 1 16 Tryz.underlying41 SI1.out SI2.out SI3.out SI4.out rfl (by omega) (.slice A8 i cap8) (i) (sc (kst X Y i)) (by rfl) (HQ6.out.1.alloc _) ⟨w6.heap.size,0,none⟩ 1 1 [.string l1] (by rfl) (by rfl) (World.news_of_block (cs:=#[.string l1]) (t:=9) (fr:=(0,0)) (heap_alloc_new w6 _)) (by simp [Value.oneCell']) (by omega) (h63_t (by have:=HIN.out;omega)) (hby_t (by have:=HIN.out;omega)) (zA9 HQ6.out.2.size _) (w6.heap.size+1) (by simp) ?_
      intro gg capg wA hownA hgrowA hatA hltA
      have HM8:=LH (HQ6.out.app hownA hgrowA)
      have HBG9:=LH (blk_app HBG6.out HQ6.out (by decide) hgrowA)
      have y0:wA.cell? ⟨G,0,none⟩=some (.int .i64 (X i))∧wA.cell? ⟨G,1,none⟩=some (.int .i64 (Y i)):=⟨HBG9.out.cell 0,HBG9.out.cell 1⟩
      clear hownA hgrowA hatA hltA)))
  all_goals
   clear hs0 y0 HS L1 L2 HBG hq5 hq6
   go_wp2_with fail
   go_roundw
   case rel=>exact ⟨i',HI',rfl,by rw [HKS.out,←HII.out];exact HM8.out⟩
   case measure=>exact HMS.out
attribute [local go_sem] Oper.semAt_some
theorem cut_split (s:ByteArray) (c:UInt8):(Lib.indexByte s.data.toList c= -1)∨∃k:Nat,Lib.indexByte s.data.toList c=(k:Int)∧k<s.size:=by
 rcases zG3 s.data.toList c with ⟨h,e⟩|⟨a,b,e1,e2,e3⟩
 ·exact .inl e
 ·refine .inr ⟨a.length,e3,?_⟩
  have:s.size=s.data.toList.length:=(Array.length_toList (xs:=s.data)).symm
  rw [this,e1];simp
def cutA (s:ByteArray) (c:UInt8):ByteArray:=if Lib.indexByte s.data.toList c= -1 then s else s.extract 0 (Lib.indexByte s.data.toList c).toNat
def cutB (s:ByteArray) (c:UInt8):ByteArray:=if Lib.indexByte s.data.toList c= -1 then ⟨#[]⟩ else s.extract ((Lib.indexByte s.data.toList c).toNat+1) s.size
def cutF (s:ByteArray) (c:UInt8):Bool:=if Lib.indexByte s.data.toList c= -1 then false else true
theorem cut_size (s:ByteArray) (c:UInt8):(cutA s c).size≤s.size∧(cutB s c).size≤s.size:=by
 unfold cutA cutB
 rcases cut_split s c with e |⟨k,e,hk⟩
 ·rw [if_pos e,if_pos e];exact ⟨nl _,Nat.zero_le _⟩
 ·rw [if_neg (by omega),if_neg (by omega),ByteArray.size_extract,ByteArray.size_extract];omega
theorem cut_at {a b:List UInt8} {c:UInt8} (h:c∉a):cutA ⟨(a++c::b).toArray⟩ c=⟨a.toArray⟩∧cutB ⟨(a++c::b).toArray⟩ c=⟨b.toArray⟩:=by
 have e:Lib.indexByte (a++c::b) c=(a.length:Int):=by
  rcases zG3 (a++c::b) c with ⟨hn,_⟩|⟨a',b',e1,e2,e3⟩
  ·exact absurd (by simp) hn
  ·rw [e3]
   have:a.length=a'.length:=by
        clear e3
        induction a generalizing a' with
        |nil=>
         cases a' with
         |nil=>rfl
         |cons x a'=>simp at e1;exact absurd (by simp [e1.1]) e2
        |cons y a ih=>
         cases a' with
         |nil=>simp at e1;exact absurd (by simp [e1.1]) h
         |cons x a'=>
          simp at e1
          have:=ih (fun g=>h (by simp [g])) a' e1.2 (fun g=>e2 (by simp [g]))
          simp [this]
   omega
 have e':Lib.indexByte (⟨(a++c::b).toArray⟩:ByteArray).data.toList c=(a.length:Int):=e
 unfold cutA cutB
 rw [if_neg (by omega),if_neg (by omega),e']
 constructor
 ·apply ByteArray.ext
  rw [ByteArray.data_extract]
  apply Array.ext'
  rw [Array.toList_extract]
  simp
 ·apply ByteArray.ext
  rw [ByteArray.data_extract]
  apply Array.ext'
  rw [Array.toList_extract]
  have:(⟨(a++c::b).toArray⟩:ByteArray).size=a.length+1+b.length:=by show (a++c::b).length=_;simp;omega
  rw [this]
  simp
theorem tcutc0 (s:ByteArray) (hs:s.size≤8388608) (c:UInt8) (w:World):Calls Tryz.prog 116 #[.string s,.string ⟨#[c]⟩] w fun e w'=>e= .returned (.tuple #[.string (cutA s c),.string (cutB s c),.bool (cutF s c)])∧Below w.heap.size w w':=by
 have S:=fun w=>Tryz.stringslite_Index_one s c w
 rcases cut_split s c with e |⟨k,e,hk⟩
 ·have ea:cutA s c=s:=if_pos e
  have eb:cutB s c=⟨#[]⟩:=if_pos e
  have ef:cutF s c=false:=if_pos e
  rw [ea,eb,ef]
  rw [e] at S
  have S:=LH S
  clear e hs ea eb ef
  go_enter Tryz.func116,Tryz.ntmps116
  go_wp2_with (first |(go_at_call 153;(with_reducible refine (S.out _).mono ?_);rintro e w' ⟨rfl,rfl⟩))
  go_ret3
  exact ⟨rfl,bel⟩
 ·obtain ⟨kk,hkk⟩:∃z,z=k+1:=⟨_,rfl⟩
  have ea:cutA s c=s.extract 0 k:=by unfold cutA;rw [if_neg (by omega),e];rfl
  have eb:cutB s c=s.extract kk s.size:=by unfold cutB;rw [if_neg (by omega),e,hkk];rfl
  have ef:cutF s c=true:=if_neg (by omega)
  rw [ea,eb,ef]
  rw [e] at S
  have S:=LH S
  have t1:decide ((0:Int)≤(k:Int))=true:=dT (by omega)
  have t2:IntKind.i64.wrap ((k:Int)+1)=(kk:Int):=by rw [IntKind.wrap_i64];omega
  have t3:kk≤s.size:=by omega
  have t4:(kk:Int)≤(s.size:Int):=by omega
  have t5:k≤s.size:=by omega
  have t6:(k:Int)≤(s.size:Int):=by omega
  clear e hk hkk hs ea eb ef
  go_enter Tryz.func116,Tryz.ntmps116
  go_wp2_with (first |(go_at_call 153;(with_reducible refine (S.out _).mono ?_);rintro e w' ⟨rfl,rfl⟩))
  go_quiet (fail)
  go_wp2_with fail
  go_ret3
  exact ⟨by simp [*],bel⟩
theorem tcutc (s:ByteArray) (hs:s.size≤8388608) (c:UInt8) (w:World):Calls Tryz.prog 76 #[.string s,.string ⟨#[c]⟩] w fun e w'=>e= .returned (.tuple #[.string (cutA s c),.string (cutB s c),.bool (cutF s c)])∧Below w.heap.size w w':=by
 have S:=LH fun w=>tcutc0 s hs c w
 clear hs
 go_enter Tryz.func76,Tryz.ntmps76
 go_wp2_with (first |(go_at_call 116;(with_reducible refine (S.out _).mono ?_);rintro e w1 ⟨rfl,hb1⟩;obtain ⟨hc1,hf1⟩:=zA4 hb1;have hz1:=hb1.size;(try simp at hz1);(try simp only [heap_drew,World.heap_drewN] at hz1 hc1 hf1);(try have y0:w.heap.size<w1.heap.size:=by omega)))
 go_ret3
 refine ⟨rfl,?_⟩
 exact bel
theorem words_at {s x:ByteArray} {pre post:List ByteArray} (hx:zC2 s=pre++x::post) {n:Nat} {X Y:Nat→Int} (hok:TabOK n X Y) (ht:s.data.toList=txL X Y n):pre.length<n∧x=⟨(ktx (X pre.length) (Y pre.length)).toArray⟩:=by
 obtain ⟨m,rfl⟩:∃m,n=m+1:=⟨n - 1,by have:=hok.1;omega⟩
 unfold zC2 at hx
 rw [ht,wds_tx] at hx
 have hl:=congrArg List.length hx
 rw [List.length_map,kws_len,List.length_append,List.length_cons] at hl
 have hlt:pre.length<m+1:=by omega
 refine ⟨hlt,?_⟩
 have e:=congrArg (fun l=>l[pre.length]?) hx
 simp only [List.getElem?_map,kws_get X Y hlt,List.getElem?_append_right (nl _),Nat.sub_self,List.getElem?_cons_zero,Option.map_some,Option.some.injEq] at e
 exact e.symm
theorem words_len {s:ByteArray} {n:Nat} {X Y:Nat→Int} (hok:TabOK n X Y) (ht:s.data.toList=txL X Y n):(zC2 s).length=n:=by
 obtain ⟨m,rfl⟩:∃m,n=m+1:=⟨n - 1,by have:=hok.1;omega⟩
 unfold zC2
 rw [List.length_map,ht,wds_tx,kws_len]
theorem words_pos (s:ByteArray):1≤(zC2 s).length:=by
 unfold zC2
 rw [List.length_map]
 have:=List.length_pos_iff.2 (zH0 s.data.toList)
 omega
theorem words_size {s x:ByteArray} (h:x∈zC2 s):x.size≤s.size:=by
 unfold zC2 at h
 obtain ⟨l,hl,rfl⟩:=List.mem_map.1 h
 have:=zI4 _ l hl
 have e:s.size=s.data.toList.length:=(Array.length_toList (xs:=s.data)).symm
 show l.length≤_
 omega
def Agree (s:ByteArray) (L:List (Int×Int)):Prop:=∀n X Y,TabOK n X Y→s.data.toList=txL X Y n→L=tl L.length X Y
theorem agree_nil (s:ByteArray):Agree s []:=fun _ _ _ _ _=>rfl
theorem agree_step {s x:ByteArray} {pre post:List ByteArray} {L:List (Int×Int)} {v1 v2:Int} (hx:zC2 s=pre++x::post) (hL:L.length=pre.length) (h:Agree s L) (h1:Lib.atoiAll (cutA x 58).data.toList= .ok v1) (h2:Lib.atoiAll (cutB x 58).data.toList= .ok v2):Agree s (L++[(v1,v2)]):=fun n X Y hok ht=>by
 obtain ⟨hlt,e⟩:=words_at hx hok ht
 have hn:=hok.near pre.length hlt
 rw [e] at h1 h2
 obtain ⟨c1,c2⟩:=cut_at (b:=Lib.itoa (Y pre.length)) (itoa_no58 (X pre.length))
 unfold ktx at h1 h2
 rw [c1] at h1
 rw [c2] at h2
 have a1:=Lib.NumEnd.ok.inj (h1.symm.trans (zG7 hn.1.1 hn.1.2))
 have a2:=Lib.NumEnd.ok.inj (h2.symm.trans (zG7 hn.2.1 hn.2.2))
 have e2:=h n X Y hok ht
 rw [List.length_append,List.length_singleton,tl_succ,hL,a1,a2]
 rw [hL] at e2
 rw [←e2]
theorem no_text {s x:ByteArray} {pre post:List ByteArray} (hx:zC2 s=pre++x::post) (hb:(∀v,Lib.atoiAll (cutA x 58).data.toList≠.ok v)∨(∀v,Lib.atoiAll (cutB x 58).data.toList≠.ok v)∨100<pre.length):∀n X Y,TabOK n X Y→s.data.toList≠txL X Y n:=fun n X Y hok ht=>by
 obtain ⟨hlt,e⟩:=words_at hx hok ht
 have hn:=hok.near pre.length hlt
 obtain ⟨c1,c2⟩:=cut_at (b:=Lib.itoa (Y pre.length)) (itoa_no58 (X pre.length))
 rw [e] at hb
 unfold ktx at hb
 rw [c1,c2] at hb
 rcases hb with h |h |h
 ·exact h _ (zG7 hn.1.1 hn.1.2)
 ·exact h _ (zG7 hn.2.1 hn.2.2)
 ·have:=hok.2.1;omega
def ParsePost (w:World) (s:ByteArray) (e:Ending) (w':World):Prop:=
 (∃(n:Nat) (X Y:Nat→Int) (g cap:Nat),TabOK n X Y∧s.data.toList=txL X Y n∧e= .returned (.tuple #[.slice (some ⟨g,0,none⟩) n cap,.int .i64 0])∧w.heap.size≤g∧TabAt w' g 0 n X Y∧Below w.heap.size w w')∨
 ((∀n X Y,TabOK n X Y→s.data.toList≠txL X Y n)∧e= .returned (.tuple #[.slice none 0 0,.int .i64 7])∧Below w.heap.size w w')
structure PrI (w:World) (s:ByteArray) (pre:List ByteArray) (W:World):Prop where
 r0:Blk W w.heap.size 53 #[.slice none 0 0]
 r1:Blk W (w.heap.size+1) 29 #[.int .i64 0]
 tb:∃v L,Blk W (w.heap.size+1+1) 53 #[v]∧W.ownsRow (w.heap.size+6) 97 2 v pre.length (kc L)∧L.length=pre.length∧Agree s L
 le:pre.length≤101
 bl:Below w.heap.size w W
 sz:w.heap.size+6≤W.heap.size
structure PrX (w:World) (s:ByteArray) (W:World):Prop where
 r0:Blk W w.heap.size 53 #[.slice none 0 0]
 r1:Blk W (w.heap.size+1) 29 #[.int .i64 7]
 no:∀n X Y,TabOK n X Y→s.data.toList≠txL X Y n
 bl:Below w.heap.size w W
theorem row_kept {W W':World} {base size k bs B:Nat} {e:TypeId} {v:Value} {xs:List Value} {row:Option Nat} (h:W.ownsRow base e size v k xs) (hbs:bs<base) (hg:W.grownBy W' row) (hr:∀r,row=some r→r=bs∨(B≤r∧∃o:Obj,W.heap[r]?=some o∧o.isCells=false)):W'.ownsRow base e size v k xs:=by
 refine h.kept hg ?_
 rcases h.2 with ⟨rfl,_⟩|⟨g,cap,cur,rfl,hge,hgb,_⟩
 ·exact .inl rfl
 ·refine .inr fun e'=>?_
  rcases hr g (by simpa [Value.ownBlock] using e'.symm) with h1 |⟨_,o,ho,hc⟩
  ·omega
  ·rw [hgb] at ho;cases ho;cases hc
theorem PrI.holds (w:World) (s:ByteArray) (B:Nat) (hB:w.heap.size+6≤B):Holds (w.heap.size+1+1+1) B (PrI w s):=fun pre W W' row h hg hr=>by
 have hne:∀k,k<w.heap.size+1+1+1→some k≠row:=fun k hk e=>by rcases hr k e.symm with h1 |⟨h1,_⟩<;> omega
 obtain ⟨v,L,hb,ho,hl,ha⟩:=h.tb
 exact ⟨h.r0.grown hg (hne _ (by omega)),h.r1.grown hg (hne _ (by omega)),⟨v,L,hb.grown hg (hne _ (by omega)),row_kept ho (by omega) hg hr,hl,ha⟩,h.le,
  h.bl.grown hg h.bl.size (fun k e=>by rcases hr k e with h1 |⟨h1,_⟩<;> omega),nT h.sz hg.size⟩
theorem PrX.holds (w:World) (s:ByteArray) (B:Nat) (hB:w.heap.size+6≤B):Holds (w.heap.size+1+1+1) B (fun (_:List ByteArray) W=>PrX w s W):=fun pre W W' row h hg hr=>by
 have hne:∀k,k<w.heap.size+1+1+1→some k≠row:=fun k hk e=>by rcases hr k e.symm with h1 |⟨h1,_⟩<;> omega
 exact ⟨h.r0.grown hg (hne _ (by omega)),h.r1.grown hg (hne _ (by omega)),h.no,h.bl.grown hg h.bl.size (fun k e=>by rcases hr k e with h1 |⟨h1,_⟩<;> omega)⟩
theorem app_keep {w7 w8:World} {base k:Nat} {v:Value} {xs:List Value} {tmp:Obj} (ho:w7.ownsRow base 97 2 v k xs) (hg:(w7.alloc tmp).grownBy w8 v.ownBlock):
 w7.heap.size≤w8.heap.size∧(∀j,j<base→j<w7.heap.size→w8.heap[j]?=w7.heap[j]?)∧(∀(j:Nat) (o:Obj),w7.heap[j]?=some o→o.isCells=false→w8.heap[j]?=some o)∧(∀B,B≤base→B≤w7.heap.size→Below B w7 w8):=by
 have hs:w7.heap.size≤w8.heap.size:=by have:=hg.size;simp at this;omega
 have key:∀g,v.ownBlock=some g→base≤g∧∃o:Obj,w7.heap[g]?=some o∧o.isCells=true:=fun g e=>by
  rcases ho.2 with ⟨rfl,_⟩|⟨g',cap,cur,rfl,hge,hgb,_⟩
  ·simp [Value.ownBlock] at e
  ·have:g'=g:=by simpa [Value.ownBlock] using e
   subst this
   exact ⟨hge,_,hgb,rfl⟩
 have hold:∀j,j<w7.heap.size→(w7.alloc tmp).heap[j]?=w7.heap[j]?:=fun j hj=>Below.heap_alloc _ _ _ hj
 refine ⟨hs,fun j hj hj2=>?_,fun j o hj ho'=>?_,fun B hB hB2=>?_⟩
 ·refine (hg.block j (by simp;omega) (fun e=>?_)).trans (hold j hj2)
  have:=(key j e.symm).1;omega
 ·have hlt:=(Array.getElem?_eq_some_iff.1 hj).1
  refine ((hg.block j (by simp;omega) (fun e=>?_)).trans (hold j hlt)).trans hj
  obtain ⟨_,o2,h2,h3⟩:=key j e.symm
  rw [hj] at h2;cases h2;rw [ho'] at h3;cases h3
 ·exact ((bR B w7).alloc hB2 tmp).grown hg (by simp;omega) (fun g e=>nT hB (key g e).1)
theorem own_blk_far {W:World} {base k g:Nat} {e:TypeId} {size:Nat} {v:Value} {xs:List Value} (h:W.ownsRow base e size v k xs) (hg:g<base):v= .slice none 0 0∨some g≠v.ownBlock:=by
 rcases h.2 with ⟨rfl,_⟩|⟨g',cap,cur,rfl,hge,_⟩
 ·exact .inl rfl
 ·refine .inr fun e=>?_
  have:g=g':=by simpa [Value.ownBlock] using e
  omega
theorem zF2 {W:World} {p:Addr} {u:Value} {k:Nat} (h:k≠p.block):(W.setCell p u).heap[k]?=W.heap[k]?:=Below.heap_setCell W p u k h
theorem zK2 (W:World) (p:Addr) (u:Value):(W.setCell p u).heap.size=W.heap.size:=by simp [World.setCell]
theorem two_set {W:World} {z:Nat} {T E:TypeId} {x0 x1:Value} (h0:Blk W z T #[x0]) (h1:Blk W (z+1) E #[x1]) (v0 v1:Value):
 Blk ((W.setCell ⟨z,0,none⟩ v0).setCell ⟨z+1,0,none⟩ v1) z T #[v0]∧Blk ((W.setCell ⟨z,0,none⟩ v0).setCell ⟨z+1,0,none⟩ v1) (z+1) E #[v1]:=by
 refine ⟨(h0.set_ 0 v0).far (by show z≠z+1;omega) _,(h1.far (by show z+1≠z;omega) v0).set_ 0 v1⟩
theorem zL7 {B z:Nat} {W A:World} (v0 v1:Value) (h:Below W.heap.size W A) (hB:z+1<B):KeepsFrom B W ((A.setCell ⟨z,0,none⟩ v0).setCell ⟨z+1,0,none⟩ v1):=by
 refine ⟨by rw [zK2,zK2];exact h.size,fun k o hk ho _=>?_⟩
 rw [zF2 (by show k≠z+1;omega),zF2 (by show k≠z;omega)]
 exact (h.block k (Array.getElem?_eq_some_iff.1 ho).1).trans ho
theorem PrI.bad {w W A:World} {s:ByteArray} {pre:List ByteArray} (hi:PrI w s pre W) (h:Below W.heap.size W A) (hno:∀n X Y,TabOK n X Y→s.data.toList≠txL X Y n):PrX w s ((A.setCell ⟨w.heap.size,0,none⟩ (.slice none 0 0)).setCell ⟨w.heap.size+1,0,none⟩ (.int .i64 7)):=by
 obtain ⟨a,b⟩:=two_set (hi.r0.call h) (hi.r1.call h) (.slice none 0 0) (.int .i64 7)
 exact ⟨a,b,hno,((hi.bl.trans (h.mono hi.bl.size)).setCell (p:=⟨w.heap.size,0,none⟩) (nl _) _).setCell (p:=⟨w.heap.size+1,0,none⟩) (by show w.heap.size≤w.heap.size+1;omega) _⟩
theorem PrI.app {w W w7 w8:World} {s x:ByteArray} {pre post:List ByteArray} {v v':Value} {L:List (Int×Int)} {v1 v2:Int} {tmp:Obj} {B:Nat} (hi:PrI w s pre W) (hB:w.heap.size+6≤B) (h:Below W.heap.size W w7) (hxs:zC2 s=pre++x::post)
 (hL:L.length=pre.length) (ha:Agree s L) (h1:Lib.atoiAll (cutA x 58).data.toList= .ok v1) (h2:Lib.atoiAll (cutB x 58).data.toList= .ok v2) (hle:pre.length≤100)
 (hv:Blk w7 (w.heap.size+1+1) 53 #[v]) (ho:w7.ownsRow (w.heap.size+6) 97 2 v pre.length (kc L)) (hown:w8.ownsRow (w.heap.size+6) 97 2 v' (pre.length+1) (kc L++[.int .i64 v1,.int .i64 v2])) (hg:(w7.alloc tmp).grownBy w8 v.ownBlock):
 KeepsFrom B W (w8.setCell ⟨w.heap.size+1+1,0,none⟩ v')∧Kp3 (w.heap.size+1+1+1) W (w8.setCell ⟨w.heap.size+1+1,0,none⟩ v')∧PrI w s (pre++[x]) (w8.setCell ⟨w.heap.size+1+1,0,none⟩ v'):=by
 obtain ⟨k1,k2,k3,k4⟩:=app_keep ho hg
 have hs7:=h.size
 have hsz:=hi.sz
 have b8:Below w.heap.size w w8:=(hi.bl.trans (h.mono hi.bl.size)).trans (k4 _ (by omega) (by omega))
 have blk:∀{j:Nat} {t:TypeId} {cs:Array Value},j<w.heap.size+6→Blk w7 j t cs→Blk w8 j t cs:=fun hj hb=>(k2 _ hj hb.lt).trans hb
 refine ⟨⟨by rw [zK2];omega,fun k o hk ho' hc=>?_⟩,⟨by rw [zK2];omega,fun k hk1 hk2=>?_⟩,?_⟩
 ·rw [zF2 (by show k≠w.heap.size+1+1;omega)]
  exact k3 k o ((h.block k (Array.getElem?_eq_some_iff.1 ho').1).trans ho') hc
 ·rw [zF2 (by show k≠w.heap.size+1+1;omega)]
  exact (k2 k (by omega) (by omega)).trans (h.block k (by omega))
 ·refine ⟨(blk (by omega) (hi.r0.call h)).far (by show w.heap.size≠w.heap.size+1+1;omega) _,(blk (by omega) (hi.r1.call h)).far (by show w.heap.size+1≠w.heap.size+1+1;omega) _,⟨v',L++[(v1,v2)],(blk (by omega) hv).set_ 0 v',?_,by simp [hL],agree_step hxs hL ha h1 h2⟩,by simp;omega,b8.setCell (p:=⟨w.heap.size+1+1,0,none⟩) (by show w.heap.size≤w.heap.size+1+1;omega) _,by rw [zK2];omega⟩
  rw [zL8,List.length_append]
  refine hown.kept (grownBy_setCell' w8 _ v') ?_
  rcases own_blk_far (g:=w.heap.size+1+1) hown (by omega) with h0 |h0
  ·exact .inl (by rw [h0];rfl)
  ·exact .inr (Ne.symm h0)
set_option maxRecDepth 100000 in
set_option maxHeartbeats 4000000 in
theorem tparse (s:ByteArray) (hs:s.size≤300000) (w:World) (hE:Env w):Calls Tryz.prog 156 #[.string s] w (ParsePost w s):=by
 have HE:=LH hE
 have HSZ:=LH hs
 have SP:=LH fun w=>tsplit s w
 clear hE
 refine (callsIn_wide (n:=4)).1 ?_
 refine callsIn_of_wp_marks Tryz.func156 rfl trivial ?_ rfl
 simp only [Tryz.ntmps156,List.size_toArray,List.length_cons,List.length_nil,Nat.reduceAdd,Nat.reduceSub,Array.replicate_succ,Array.replicate_zero,List.push_toArray,List.append_toArray,List.nil_append,List.cons_append]
 gi_wp2_with (refine ⟨trivial,?_⟩;gi_at_call 183;refine (callsIn_wide.2 (SP.out _)).mono ?_;rintro e w4 ⟨rfl,hsp,hb4,hz4⟩)
 simp only [World.size_alloc] at hsp hz4
 have hB3:Below w.heap.size w (((w.alloc (Obj.cells #[Value.slice none 0 0] 53)).alloc (Obj.cells #[Value.int IntKind.i64 0] 29)).alloc (Obj.cells #[Value.slice none 0 0] 53)):=(((bR _ w).alloc (nl _) _).alloc (by simp) _).alloc (by simp<;> omega) _
 have hB4:Below w.heap.size w w4:=hB3.trans (hb4.mono hB3.size)
 have g0:=(((Blk.new w 53 #[.slice none 0 0]).alloc (Obj.cells #[Value.int IntKind.i64 0] 29)).alloc (Obj.cells #[Value.slice none 0 0] 53)).call hb4
 have g1:=((Blk.new (w.alloc (Obj.cells #[Value.slice none 0 0] 53)) 29 #[.int .i64 0]).alloc (Obj.cells #[Value.slice none 0 0] 53)).call hb4
 have g2:=(Blk.new ((w.alloc (Obj.cells #[Value.slice none 0 0] 53)).alloc (Obj.cells #[Value.int IntKind.i64 0] 29)) 53 #[.slice none 0 0]).call hb4
 simp only [World.size_alloc] at g1 g2
 have hz:w.heap.size+6≤w4.heap.size:=by omega
 have PI0:PrI w s [] w4:=⟨g0,g1,⟨_,[],g2,World.ownsRow_nil _ _ _ _,rfl,agree_nil s⟩,Nat.zero_le _,hB4,hz⟩
 obtain ⟨i0,hi0,hz0,hz1,hz2⟩:=zA8 info39
 have HI0:=LH hi0
 have HZ0:=LH hz0
 have HZ1:=LH hz1
 have HZ2:=LH hz2
 have HHS:=LH hz
 have hsp':=hsp
 clear hB3 hb4 g0 g1 g2 hi0 hz0 hz1 hz2 hB4
 refine wpIn_range_own rfl (by omega) (gf:=219) (lb:=#[.pointer (some ⟨w.heap.size+1+1+1+1,0,none⟩),.pointer (some ⟨w.heap.size+1+1+1,0,none⟩),.pointer (some ⟨w.heap.size+1+1+1+2,0,none⟩)]) rfl trivial (enters_of Tryz.func219 (by kernel_rfl) rfl) (encs:=fun x:ByteArray=>#[.string x]) (bs:=w.heap.size+1+1+1) (Kp:=Kp3 (w.heap.size+1+1+1)) (by omega) (split_hands s (by omega) _ w4 hsp') Kp3.t
  (fun W l o' hl=>⟨by simp,fun k h1 h2=>World.putObj_heap_other (by omega)⟩) (fun _=>rfl) (PrI w s) (fun _ W=>PrX w s W) (PrI.holds w s _ hz) (PrX.holds w s _ hz) PI0
  (fun x=>{ tmps:=#[.string s,undef,.pointer (some ⟨w.heap.size,0,none⟩),.pointer (some ⟨w.heap.size+1,0,none⟩),.pointer (some ⟨w.heap.size+1+1,0,none⟩),.string x,undef,undef,undef,undef,undef,undef,undef,undef,undef,.string s,.func (.func 219) #[] #[.pointer (some ⟨w.heap.size+1+1+1+1,0,none⟩),.pointer (some ⟨w.heap.size+1+1+1,0,none⟩),.pointer (some ⟨w.heap.size+1+1+1+2,0,none⟩)],.string x,undef,undef,undef,undef,undef,undef,undef,undef,undef,undef,undef,undef,undef,undef,undef,undef,undef,undef,undef,undef,undef,undef,undef,undef,undef,undef,undef,undef,undef,undef,undef,undef,undef,undef,undef,undef,undef,undef,undef,undef,undef,undef,undef,undef,undef,undef],defers:=[] }) ?assign ?body ?done ?stop
 case assign=>
  intro l x W K hK
  gi_wp2
  exact hK
 case stop=>
  intro D pre W hD hi hK
  have c0:=hi.r0.cell 0
  have c1:=hi.r1.cell 0
  have HX:=LH hi
  have HDD:=LH hD
  clear hi hD
  gi_wp2
  have hlt:=(Array.getElem?_eq_some_iff.1 hK).1
  have hDz:=HHS.out
  have hDD:=HDD.out
  refine ⟨by simp,.inl ⟨_,_,rfl,run_takeDeferred hK,?_⟩⟩
  have hp:∀{j:Nat} {t:TypeId} {cs:Array Value},j<w.heap.size+6→Blk W j t cs→Blk (W.putObj D (.deferred none)) j t cs:=fun hj hb=>(World.putObj_heap_other (by omega)).trans hb
  have q0:=(hp (by omega) HX.out.r0).cell 0
  have q1:=(hp (by omega) HX.out.r1).cell 0
  simp only [List.getElem?_toArray,List.getElem?_cons_zero] at q0 q1
  refine ⟨.tuple #[.slice none 0 0,.int .i64 7],?_,.inr ⟨HX.out.no,rfl,HX.out.bl.grown (grownBy_putObj' W D _) HX.out.bl.size (fun k e=>by cases e;omega)⟩⟩
  simp [results,Tryz.f156,go_sem,q0,q1]
 case done=>
  intro D W hD hi hK
  obtain ⟨v,L,hv,ho,hL,ha⟩:=hi.tb
  have hp:=words_pos s
  have hle:=hi.le
  obtain ⟨m,hm⟩:∃m,(zC2 s).length=m+1:=⟨(zC2 s).length - 1,by omega⟩
  rw [hm] at ho hL hle
  obtain ⟨g,cap,rfl⟩:=ownsRow_succ ho
  have ht:TabAt W g 0 (m+1) (kX L) (kY L):=by
   have:=tab_of_kc (L:=L) (w:=W) (base:=w.heap.size+6) (g:=g) (cap:=cap) (t:=97) (by rw [hL];exact ho)
   rw [hL] at this
   exact this
  have hg:=(ho.lt g rfl).1
  have HG:=LH hg
  have HM:=LH hle
  have HT:=LH ht
  -- whatever table has the text is this one
  have HU:Hid (∀n X Y,TabOK n X Y→s.data.toList=txL X Y n→TabOK (m+1) (kX L) (kY L)∧s.data.toList=txL (kX L) (kY L) (m+1)):=fun n X Y hok hx=>by
   have e:=ha n X Y hok hx
   have en:=words_len hok hx
   have em:n=m+1:=by omega
   subst em
   rw [hL] at e
   have hk:∀k,k<m+1→kX L k=X k∧kY L k=Y k:=fun k hk=>by rw [e];exact tl_at hk
   refine ⟨⟨hok.1,hok.2.1,fun k hk'=>?_⟩,?_⟩
   ·have:=hok.2.2 k hk'
    unfold zG6 at this⊢
    rw [(hk k hk').1,(hk k hk').2]
    refine ⟨this.1,this.2.1,fun h0=>?_⟩
    rw [(hk (k - 1) (by omega)).1,(hk (k - 1) (by omega)).2]
    exact this.2.2 h0
   ·rw [hx];exact tx_congr (fun k hk'=>⟨(hk k hk').1.symm,(hk k hk').2.symm⟩)
  have HEW:=LH (HE.out.below hi.bl)
  have yw:=hv.cell 0
  simp only [List.getElem?_toArray,List.getElem?_cons_zero] at yw
  clear hg hle ht ha hL hm hp ho
  by_cases hok:TabOK (m+1) (kX L) (kY L)
  ·have ST:=LH (ttext g 0 (m+1) cap (kX L) (kY L) W hok HT.out HEW.out)
   obtain ⟨q,hq⟩:∃q:ByteArray,q=⟨(txL (kX L) (kY L) (m+1)).toArray⟩:=⟨_,rfl⟩
   rw [←hq] at ST
   by_cases he:q=s
   ·subst he
    have HOK:=LH hok
    have HX:Hid (q.data.toList=txL (kX L) (kY L) (m+1)):=by show _=_;rw [hq]
    clear hq hok
    gi_wp2_with (refine ⟨trivial,?_⟩;gi_at_call 160;refine (callsIn_wide.2 ST.out).mono ?_;rintro e w5 ⟨rfl,hb5⟩;have HB5:=LH hb5;have y0:=(hi.r0.call hb5).cell 0;have y1:=(hi.r1.call hb5).cell 0;have y2:=(hv.call hb5).cell 0;have f0:=(hi.r0.call hb5).frozen 0;have f1:=(hi.r1.call hb5).frozen 0;simp only [List.getElem?_toArray,List.getElem?_cons_zero] at y0 y1 y2;clear hb5)
    have HK5:w5.heap[D]?=some (.deferred (some [])):=(HB5.out.block D (Array.getElem?_eq_some_iff.1 hK).1).trans hK
    have hDz:=HHS.out
    obtain ⟨a0,a1⟩:=two_set (hi.r0.call HB5.out) (hi.r1.call HB5.out) (.slice (some ⟨g,0,none⟩) (m+1) cap) (.int .i64 0)
    have hKf:((w5.setCell ⟨w.heap.size,0,none⟩ (.slice (some ⟨g,0,none⟩) (m+1) cap)).setCell ⟨w.heap.size+1,0,none⟩ (.int .i64 0)).heap[D]?=some (.deferred (some [])):=by
     rw [zF2 (by show D≠w.heap.size+1;omega),zF2 (by show D≠w.heap.size;omega)];exact HK5
    have hbf:Below w.heap.size w ((w5.setCell ⟨w.heap.size,0,none⟩ (.slice (some ⟨g,0,none⟩) (m+1) cap)).setCell ⟨w.heap.size+1,0,none⟩ (.int .i64 0)):=((hi.bl.trans (HB5.out.mono hi.bl.size)).setCell (p:=⟨w.heap.size,0,none⟩) (nl _) _).setCell (p:=⟨w.heap.size+1,0,none⟩) (by show w.heap.size≤w.heap.size+1;omega) _
    refine ⟨by simp,.inl ⟨_,_,rfl,run_takeDeferred hKf,?_⟩⟩
    have q0:=(show Blk (((w5.setCell ⟨w.heap.size,0,none⟩ (.slice (some ⟨g,0,none⟩) (m+1) cap)).setCell ⟨w.heap.size+1,0,none⟩ (.int .i64 0)).putObj D (.deferred none)) _ _ _ from (World.putObj_heap_other (by omega)).trans a0).cell 0
    have q1:=(show Blk (((w5.setCell ⟨w.heap.size,0,none⟩ (.slice (some ⟨g,0,none⟩) (m+1) cap)).setCell ⟨w.heap.size+1,0,none⟩ (.int .i64 0)).putObj D (.deferred none)) _ _ _ from (World.putObj_heap_other (by omega)).trans a1).cell 0
    simp only [List.getElem?_toArray,List.getElem?_cons_zero] at q0 q1
    have hbp:=hbf.grown (grownBy_putObj' _ D (.deferred none)) hbf.size (fun k e=>by cases e;omega)
    refine ⟨.tuple #[.slice (some ⟨g,0,none⟩) (m+1) cap,.int .i64 0],?_,.inl ⟨m+1,kX L,kY L,g,cap,HOK.out,HX.out,rfl,by have:=HG.out;omega,?_,hbp⟩⟩
    ·simp [results,Tryz.f156,go_sem,q0,q1]
    ·have hg:=HG.out
     have h5:=HT.out.below HB5.out HT.out.1
     refine ⟨by simp [World.setCell];exact h5.1,fun k hk=>?_⟩
     have hne:g≠D:=fun e=>by
          subst e
          have h1:=(h5.2 0 (by omega)).1
          simp only [World.cell?,HK5] at h1
          cases h1
     have hb:∀o,(((w5.setCell ⟨w.heap.size,0,none⟩ (.slice (some ⟨g,0,none⟩) (m+1) cap)).setCell ⟨w.heap.size+1,0,none⟩ (.int .i64 0)).putObj D (.deferred none)).cell? ⟨g,o,none⟩=w5.cell? ⟨g,o,none⟩:=fun o=>World.cell?_of_block (by
          show (World.putObj _ _ _).heap[g]?=_
          rw [World.putObj_heap_other hne,zF2 (by show g≠w.heap.size+1;omega),zF2 (by show g≠w.heap.size;omega)])
     exact ⟨(hb _).trans (h5.2 k hk).1,(hb _).trans (h5.2 k hk).2⟩
   ·have HNO:Hid (∀n X Y,TabOK n X Y→s.data.toList≠txL X Y n):=fun n X Y h1 h2=>he (by
     rw [hq,←(HU.out n X Y h1 h2).2])
    have u1:¬q.toList=s.toList:=fun h=>he (zC1 h)
    have u2:decide (q.toList=s.toList)=false:=dF u1
    have u3:(q.toList==s.toList)=false:=by simp [u1]
    clear hq hok he
    gi_wp2_with (refine ⟨trivial,?_⟩;gi_at_call 160;refine (callsIn_wide.2 ST.out).mono ?_;rintro e w5 ⟨rfl,hb5⟩;have HB5:=LH hb5;have y0:=(hi.r0.call hb5).cell 0;have y1:=(hi.r1.call hb5).cell 0;have y2:=(hv.call hb5).cell 0;have f0:=(hi.r0.call hb5).frozen 0;have f1:=(hi.r1.call hb5).frozen 0;simp only [List.getElem?_toArray,List.getElem?_cons_zero] at y0 y1 y2;clear hb5)
    have HK5:w5.heap[D]?=some (.deferred (some [])):=(HB5.out.block D (Array.getElem?_eq_some_iff.1 hK).1).trans hK
    have hDz:=HHS.out
    obtain ⟨a0,a1⟩:=two_set (hi.r0.call HB5.out) (hi.r1.call HB5.out) (.slice none 0 0) (.int .i64 7)
    have hKf:((w5.setCell ⟨w.heap.size,0,none⟩ (.slice none 0 0)).setCell ⟨w.heap.size+1,0,none⟩ (.int .i64 7)).heap[D]?=some (.deferred (some [])):=by
     rw [zF2 (by show D≠w.heap.size+1;omega),zF2 (by show D≠w.heap.size;omega)];exact HK5
    have hbf:Below w.heap.size w ((w5.setCell ⟨w.heap.size,0,none⟩ (.slice none 0 0)).setCell ⟨w.heap.size+1,0,none⟩ (.int .i64 7)):=((hi.bl.trans (HB5.out.mono hi.bl.size)).setCell (p:=⟨w.heap.size,0,none⟩) (nl _) _).setCell (p:=⟨w.heap.size+1,0,none⟩) (by show w.heap.size≤w.heap.size+1;omega) _
    refine ⟨by simp,.inl ⟨_,_,rfl,run_takeDeferred hKf,?_⟩⟩
    have q0:=(show Blk (((w5.setCell ⟨w.heap.size,0,none⟩ (.slice none 0 0)).setCell ⟨w.heap.size+1,0,none⟩ (.int .i64 7)).putObj D (.deferred none)) _ _ _ from (World.putObj_heap_other (by omega)).trans a0).cell 0
    have q1:=(show Blk (((w5.setCell ⟨w.heap.size,0,none⟩ (.slice none 0 0)).setCell ⟨w.heap.size+1,0,none⟩ (.int .i64 7)).putObj D (.deferred none)) _ _ _ from (World.putObj_heap_other (by omega)).trans a1).cell 0
    simp only [List.getElem?_toArray,List.getElem?_cons_zero] at q0 q1
    have hbp:=hbf.grown (grownBy_putObj' _ D (.deferred none)) hbf.size (fun k e=>by cases e;omega)
    refine ⟨.tuple #[.slice none 0 0,.int .i64 7],?_,.inr ⟨HNO.out,rfl,hbp⟩⟩
    simp [results,Tryz.f156,go_sem,q0,q1]
  ·have HNO:Hid (∀n X Y,TabOK n X Y→s.data.toList≠txL X Y n):=fun n X Y h1 h2=>hok (HU.out n X Y h1 h2).1
   have ST:=LH (ttext_bad (some ⟨g,0,none⟩) (m+1) cap (kX L) (kY L) W ⟨by have:=HM.out;omega,.inr ⟨g,0,rfl,HT.out⟩⟩ hok)
   clear hok
   gi_wp2_with (refine ⟨trivial,?_⟩;gi_at_call 160;refine (callsIn_wide.2 ST.out).mono ?_;rintro e w5 ⟨rfl,hb5⟩;have HB5:=LH hb5;have y0:=(hi.r0.call hb5).cell 0;have y1:=(hi.r1.call hb5).cell 0;have y2:=(hv.call hb5).cell 0;have f0:=(hi.r0.call hb5).frozen 0;have f1:=(hi.r1.call hb5).frozen 0;simp only [List.getElem?_toArray,List.getElem?_cons_zero] at y0 y1 y2;clear hb5)
   have HK5:w5.heap[D]?=some (.deferred (some [])):=(HB5.out.block D (Array.getElem?_eq_some_iff.1 hK).1).trans hK
   have hDz:=HHS.out
   obtain ⟨a0,a1⟩:=two_set (hi.r0.call HB5.out) (hi.r1.call HB5.out) (.slice none 0 0) (.int .i64 7)
   have hKf:((w5.setCell ⟨w.heap.size,0,none⟩ (.slice none 0 0)).setCell ⟨w.heap.size+1,0,none⟩ (.int .i64 7)).heap[D]?=some (.deferred (some [])):=by
        rw [zF2 (by show D≠w.heap.size+1;omega),zF2 (by show D≠w.heap.size;omega)];exact HK5
   have hbf:Below w.heap.size w ((w5.setCell ⟨w.heap.size,0,none⟩ (.slice none 0 0)).setCell ⟨w.heap.size+1,0,none⟩ (.int .i64 7)):=((hi.bl.trans (HB5.out.mono hi.bl.size)).setCell (p:=⟨w.heap.size,0,none⟩) (nl _) _).setCell (p:=⟨w.heap.size+1,0,none⟩) (by show w.heap.size≤w.heap.size+1;omega) _
   refine ⟨by simp,.inl ⟨_,_,rfl,run_takeDeferred hKf,?_⟩⟩
   have q0:=(show Blk (((w5.setCell ⟨w.heap.size,0,none⟩ (.slice none 0 0)).setCell ⟨w.heap.size+1,0,none⟩ (.int .i64 7)).putObj D (.deferred none)) _ _ _ from (World.putObj_heap_other (by omega)).trans a0).cell 0
   have q1:=(show Blk (((w5.setCell ⟨w.heap.size,0,none⟩ (.slice none 0 0)).setCell ⟨w.heap.size+1,0,none⟩ (.int .i64 7)).putObj D (.deferred none)) _ _ _ from (World.putObj_heap_other (by omega)).trans a1).cell 0
   simp only [List.getElem?_toArray,List.getElem?_cons_zero] at q0 q1
   have hbp:=hbf.grown (grownBy_putObj' _ D (.deferred none)) hbf.size (fun k e=>by cases e;omega)
   refine ⟨.tuple #[.slice none 0 0,.int .i64 7],?_,.inr ⟨HNO.out,rfl,hbp⟩⟩
   simp [results,Tryz.f156,go_sem,q0,q1]
 case body=>
  rintro l pre x post W hxs hi
  have HXS:=LH hxs
  have hn1:1≤4 - 1 - 1:=by omega
  have hxm:x.size≤300000:=by have:=words_size (s:=s) (x:=x) (by rw [hxs];simp);have:=HSZ.out;omega
  obtain ⟨z1,z2⟩:=cut_size x 58
  have SC:=LH fun w=>tcutc x (by omega) 58 w
  have HEW:=LH (HE.out.below hi.bl)
  obtain ⟨v,L,hv,ho,hL,ha⟩:=hi.tb
  have HI:=LH hi
  have hle:=hi.le
  generalize ha1:cutA x 58=ca at SC
  generalize ha2:cutB x 58=cb at SC
  generalize cutF x 58=cf at SC
  have NT:=LH fun h=>no_text (s:=s) hxs h
  rw [ha1,ha2] at NT
  by_cases k1:∃v1,Lib.atoiAll ca.data.toList= .ok v1
  ·obtain ⟨v1,k1⟩:=k1
   have S1:=LH fun w=>tatoi_ok ca (by rw [←ha1];omega) v1 k1 w
   by_cases k2:∃v2,Lib.atoiAll cb.data.toList= .ok v2
   ·obtain ⟨v2,k2⟩:=k2
    have S2:=LH fun w=>tatoi_ok cb (by rw [←ha2];omega) v2 k2 w
    by_cases k3:pre.length≤100
    ·have T1:decide ((100:Int)<(pre.length:Int))=false:=dF (by omega)
     have T2:decide (100<pre.length)=false:=dF (by omega)
     obtain ⟨cap0,A0,hf⟩:∃cap0 A0,v= .slice A0 pre.length cap0:=by
          rcases ho.2 with ⟨hv',h0⟩|⟨g,cap,cur,hv',_⟩
          ·exact ⟨0,none,by rw [hv',h0]⟩
          ·exact ⟨cap,_,hv'⟩
     subst hf
     gi_wp2_with (first
      |(refine ⟨trivial,?_⟩;gi_at_call 76;refine (CallsIn.inRound l (callsIn_wide.2 (SC.out _))).mono ?_;rintro e w5 ⟨rfl,hb5⟩;have HB5:=LH hb5;clear hb5)|(refine ⟨trivial,?_⟩;gi_at_call 154;with_reducible refine (CallsIn.inRound l (callsIn_wide.2 (S1.out _))).mono ?_;rintro e w6 ⟨rfl,hb⟩;have HB6:=LH (zA1 HB5.out hb);clear hb)|(refine ⟨trivial,?_⟩;gi_at_call 154;with_reducible refine (CallsIn.inRound l (callsIn_wide.2 (S2.out _))).mono ?_;rintro e w7 ⟨rfl,hb⟩;have HB7:=LH (zA1 HB6.out hb);clear hb;have y0:=(hi.r0.call HB7.out).cell 0;have y1:=(hi.r1.call HB7.out).cell 0;have y2:=(hv.call HB7.out).cell 0;have f0:=(hi.r0.call HB7.out).frozen 0;have f1:=(hi.r1.call HB7.out).frozen 0;have f2:=(hv.call HB7.out).frozen 0;simp only [List.getElem?_toArray,List.getElem?_cons_zero] at y0 y1 y2;have HO7:=LH (zB7 ho HB7.out))
      |(gi_at_builtin;refine wpListIn_append_own _ rfl _ _ 53 rfl (w.heap.size+6) 97 i0 (.agg #[.int .i64 0,.int .i64 0]) 2 16 Tryz.underlying53 HI0.out HZ0.out HZ1.out HZ2.out rfl (by decide) (.slice A0 pre.length cap0) pre.length (kc L) rfl ?c1 ⟨w7.heap.size,0,none⟩ 1 1 [.int .i64 v1,.int .i64 v2] ?c2 ?c3 ?c4 ?c5 ?c6 ?c7 ?c8 ?c9
        case c1=>exact HO7.out.alloc _
        case c2=>exact rfl
        case c3=>exact rfl
        case c4=>exact World.news_of_block (cs:=#[.int .i64 v1,.int .i64 v2]) (t:=97) (fr:=(0,0)) (heap_alloc_new _ _)
        case c5=>simp [Value.oneCell']
        case c6=>exact h63_le (by omega)
        case c7=>exact hby_le (by omega)
        case c8=>have h1:=HB7.out.size;have h2:=HI.out.sz;rw [World.size_alloc];omega
        intro v' w8 hown' hgrow hnil
        obtain ⟨g',cap',rfl⟩:=ownsRow_succ hown'
        have HOWN:=LH hown'
        have HG:=LH hgrow
        have HK8:=(app_keep HO7.out hgrow).2.1
        have hv8:Blk w8 (w.heap.size+1+1) 53 #[.slice A0 pre.length cap0]:=(HK8 (w.heap.size+1+1) (by omega) (hv.call HB7.out).lt).trans (hv.call HB7.out)
        have y8:=hv8.cell 0
        have f8:=hv8.frozen 0
        simp only [List.getElem?_toArray,List.getElem?_cons_zero] at y8
        clear HK8 hown' hgrow hnil))
     exact HI.out.app HHS.out HB7.out HXS.out hL ha (by rw [ha1];exact k1) (by rw [ha2];exact k2) k3 (hv.call HB7.out) HO7.out HOWN.out HG.out
    ·have HNO:=LH (NT.out (.inr (.inr (by omega))))
     have T1:decide ((100:Int)<(pre.length:Int))=true:=dT (by omega)
     have T2:decide (100<pre.length)=true:=dT (by omega)
     obtain ⟨cap0,A0,hf⟩:∃cap0 A0,v= .slice A0 pre.length cap0:=by
          rcases ho.2 with ⟨hv',h0⟩|⟨g,cap,cur,hv',_⟩
          ·exact ⟨0,none,by rw [hv',h0]⟩
          ·exact ⟨cap,_,hv'⟩
     subst hf
     gi_wp2_with (first
          |(refine ⟨trivial,?_⟩;gi_at_call 76;refine (CallsIn.inRound l (callsIn_wide.2 (SC.out _))).mono ?_;rintro e w5 ⟨rfl,hb5⟩;have HB5:=LH hb5;clear hb5)
          |(refine ⟨trivial,?_⟩;gi_at_call 154;with_reducible refine (CallsIn.inRound l (callsIn_wide.2 (S1.out _))).mono ?_;rintro e w6 ⟨rfl,hb⟩;have HB6:=LH (zA1 HB5.out hb);clear hb)
          |(refine ⟨trivial,?_⟩;gi_at_call 154;with_reducible refine (CallsIn.inRound l (callsIn_wide.2 (S2.out _))).mono ?_;rintro e w7 ⟨rfl,hb⟩;have HB7:=LH (zA1 HB6.out hb);clear hb;have y0:=(hi.r0.call HB7.out).cell 0;have y1:=(hi.r1.call HB7.out).cell 0;have y2:=(hv.call HB7.out).cell 0;have f0:=(hi.r0.call HB7.out).frozen 0;have f1:=(hi.r1.call HB7.out).frozen 0;simp only [List.getElem?_toArray,List.getElem?_cons_zero] at y0 y1 y2))
     exact ⟨zL7 _ _ HB7.out (by omega),HI.out.bad HB7.out HNO.out⟩
   ·have k2':∀v,Lib.atoiAll cb.data.toList≠.ok v:=fun v h=>k2 ⟨v,h⟩
    have HNO:=LH (NT.out (.inr (.inl k2')))
    obtain ⟨n2,s2⟩:=zL2 cb (by rw [←ha2];omega) k2'
    have S2:=LH s2
    clear s2
    obtain ⟨cap0,A0,hf⟩:∃cap0 A0,v= .slice A0 pre.length cap0:=by
     rcases ho.2 with ⟨hv',h0⟩|⟨g,cap,cur,hv',_⟩
     ·exact ⟨0,none,by rw [hv',h0]⟩
     ·exact ⟨cap,_,hv'⟩
    subst hf
    gi_wp2_with (first
     |(refine ⟨trivial,?_⟩;gi_at_call 76;refine (CallsIn.inRound l (callsIn_wide.2 (SC.out _))).mono ?_;rintro e w5 ⟨rfl,hb5⟩;have HB5:=LH hb5;clear hb5)
     |(refine ⟨trivial,?_⟩;gi_at_call 154;with_reducible refine (CallsIn.inRound l (callsIn_wide.2 (S1.out _))).mono ?_;rintro e w6 ⟨rfl,hb⟩;have HB6:=LH (zA1 HB5.out hb);clear hb)
     |(refine ⟨trivial,?_⟩;gi_at_call 154;with_reducible refine (CallsIn.inRound l (callsIn_wide.2 (S2.out _ (HEW.out.below HB6.out)))).mono ?_;rintro e w7 ⟨N7,rfl,hb⟩;have HB7:=LH (zA1 HB6.out hb);clear hb;have y0:=(hi.r0.call HB7.out).cell 0;have y1:=(hi.r1.call HB7.out).cell 0;have y2:=(hv.call HB7.out).cell 0;have f0:=(hi.r0.call HB7.out).frozen 0;have f1:=(hi.r1.call HB7.out).frozen 0;simp only [List.getElem?_toArray,List.getElem?_cons_zero] at y0 y1 y2))
    exact ⟨zL7 _ _ HB7.out (by omega),HI.out.bad HB7.out HNO.out⟩
  ·have k1':∀v,Lib.atoiAll ca.data.toList≠.ok v:=fun v h=>k1 ⟨v,h⟩
   have HNO:=LH (NT.out (.inl k1'))
   obtain ⟨n1,s1⟩:=zL2 ca (by rw [←ha1];omega) k1'
   have S1:=LH s1
   clear s1
   obtain ⟨cap0,A0,hf⟩:∃cap0 A0,v= .slice A0 pre.length cap0:=by
        rcases ho.2 with ⟨hv',h0⟩|⟨g,cap,cur,hv',_⟩
        ·exact ⟨0,none,by rw [hv',h0]⟩
        ·exact ⟨cap,_,hv'⟩
   subst hf
   by_cases k2:∃v2,Lib.atoiAll cb.data.toList= .ok v2
   ·obtain ⟨v2,k2⟩:=k2
    have S2:=LH fun w=>tatoi_ok cb (by rw [←ha2];omega) v2 k2 w
    gi_wp2_with (first
     |(refine ⟨trivial,?_⟩;gi_at_call 76;refine (CallsIn.inRound l (callsIn_wide.2 (SC.out _))).mono ?_;rintro e w5 ⟨rfl,hb5⟩;have HB5:=LH hb5;clear hb5)
     |(refine ⟨trivial,?_⟩;gi_at_call 154;with_reducible refine (CallsIn.inRound l (callsIn_wide.2 (S1.out _ (HEW.out.below HB5.out)))).mono ?_;rintro e w6 ⟨N6,rfl,hb⟩;have HB6:=LH (zA1 HB5.out hb);clear hb)
     |(refine ⟨trivial,?_⟩;gi_at_call 154;with_reducible refine (CallsIn.inRound l (callsIn_wide.2 (S2.out _))).mono ?_;rintro e w7 ⟨rfl,hb⟩;have HB7:=LH (zA1 HB6.out hb);clear hb;have y0:=(hi.r0.call HB7.out).cell 0;have y1:=(hi.r1.call HB7.out).cell 0;have y2:=(hv.call HB7.out).cell 0;have f0:=(hi.r0.call HB7.out).frozen 0;have f1:=(hi.r1.call HB7.out).frozen 0;simp only [List.getElem?_toArray,List.getElem?_cons_zero] at y0 y1 y2))
    exact ⟨zL7 _ _ HB7.out (by omega),HI.out.bad HB7.out HNO.out⟩
   ·have k2':∀v,Lib.atoiAll cb.data.toList≠.ok v:=fun v h=>k2 ⟨v,h⟩
    obtain ⟨n2,s2⟩:=zL2 cb (by rw [←ha2];omega) k2'
    have S2:=LH s2
    clear s2
    gi_wp2_with (first
     |(refine ⟨trivial,?_⟩;gi_at_call 76;refine (CallsIn.inRound l (callsIn_wide.2 (SC.out _))).mono ?_;rintro e w5 ⟨rfl,hb5⟩;have HB5:=LH hb5;clear hb5)
     |(refine ⟨trivial,?_⟩;gi_at_call 154;with_reducible refine (CallsIn.inRound l (callsIn_wide.2 (S1.out _ (HEW.out.below HB5.out)))).mono ?_;rintro e w6 ⟨N6,rfl,hb⟩;have HB6:=LH (zA1 HB5.out hb);clear hb)
     |(refine ⟨trivial,?_⟩;gi_at_call 154;with_reducible refine (CallsIn.inRound l (callsIn_wide.2 (S2.out _ (HEW.out.below HB6.out)))).mono ?_;rintro e w7 ⟨N7,rfl,hb⟩;have HB7:=LH (zA1 HB6.out hb);clear hb;have y0:=(hi.r0.call HB7.out).cell 0;have y1:=(hi.r1.call HB7.out).cell 0;have y2:=(hv.call HB7.out).cell 0;have f0:=(hi.r0.call HB7.out).frozen 0;have f1:=(hi.r1.call HB7.out).frozen 0;simp only [List.getElem?_toArray,List.getElem?_cons_zero] at y0 y1 y2))
    exact ⟨zL7 _ _ HB7.out (by omega),HI.out.bad HB7.out HNO.out⟩
theorem size_lst (s:ByteArray):s.size=s.data.toList.length:=rfl
theorem indexB_32 (s:ByteArray):Lib.indexB s ⟨#[32]⟩=Lib.indexByte s.data.toList 32:=Lib.one s ⟨#[32]⟩ rfl
theorem count_cons (l:List UInt8) (a:List UInt8):Lib.countByte (a++32::l) 32=Lib.countByte a 32+1+Lib.countByte l 32:=by
 unfold Lib.countByte
 rw [List.count_append,List.count_cons]
 simp;omega
theorem splitB_words:∀(N:Nat) (s:ByteArray),Lib.countByte s.data.toList 32≤N→Lib.splitB ⟨#[32]⟩ 0 N s=zC2 s:=by
 intro N
 induction N with
 |zero=>
  intro s h
  rw [Lib.splitB_zero]
  rcases zG3 s.data.toList 32 with ⟨h1,e⟩|⟨a,b,e1,e2,e3⟩
  ·unfold zC2;rw [zD9 h1];simp [bytes_of]
  ·rw [e1,count_cons] at h;omega
 |succ N ih=>
  intro s h
  rcases zG3 s.data.toList 32 with ⟨h1,e⟩|⟨a,b,e1,e2,e3⟩
  ·rw [Lib.splitB_miss _ _ _ _ ((indexB_32 s).trans e)]
   unfold zC2;rw [zD9 h1];simp [bytes_of]
  ·rcases words_cases s with ⟨h1,_⟩|⟨k,hk,hks,hw⟩
   ·omega
   ·have hka:k=a.length:=by omega
    rw [hw]
    unfold Lib.splitB
    rw [indexB_32,hk]
    have:((k:Int)== -1)=false:=by simp<;> omega
    rw [this]
    simp only [Bool.false_eq_true,if_false]
    have hsz:s.size=a.length+1+b.length:=by rw [size_lst,e1,List.length_append,List.length_cons];omega
    have eb:(s.extract (k+1) s.size).data.toList=b:=by
     rw [ByteArray.data_extract,Array.toList_extract,e1,hka]
     simp [hsz]
    have hc:Lib.countByte (s.extract (k+1) s.size).data.toList 32≤N:=by
     rw [e1,count_cons] at h
     rw [eb];omega
    rw [show ((k:Int)).toNat=k from by omega,show (⟨#[32]⟩:ByteArray).size=1 from rfl,ih _ hc]
    rfl
theorem countB_32 (s:ByteArray):Lib.countB s ⟨#[32]⟩=Lib.countByte s.data.toList 32:=by
 show Lib.count s.data.toList [32]=_
 rw [Lib.count_one]
 rfl
theorem wds_count (l:List UInt8):(wds l).length=Lib.countByte l 32+1:=by
 unfold Lib.countByte
 induction l with
 |nil=>rfl
 |cons c r ih=>
  by_cases h:c=32
  ·subst h
   simp only [wds,if_true,List.length_cons,ih,List.count_cons_self]
  ·simp only [wds,if_neg h,List.count_cons_of_ne h]
   cases e:wds r with
   |nil=>exact absurd e (zH0 r)
   |cons a t=>rw [e] at ih;simpa using ih
theorem words_cnt (s:ByteArray):(zC2 s).length=Lib.countByte s.data.toList 32+1:=by
 unfold zC2
 rw [List.length_map]
 exact wds_count _
set_option maxRecDepth 100000 in
set_option maxHeartbeats 1000000 in
theorem tsplitw (s:ByteArray) (hs:s.size≤300000) (w:World):Calls Tryz.prog 77 #[.string s,.string ⟨#[32]⟩] w fun e w'=>
 e= .returned (.slice (some ⟨w.heap.size,0,none⟩) (zC2 s).length (zC2 s).length)∧StrAt w' w.heap.size 0 (zC2 s).length (fun k=>(zC2 s).getD k ByteArray.empty)∧Below w.heap.size w w':=by
 obtain ⟨N,hN⟩:∃N,N=Lib.countByte s.data.toList 32+1:=⟨_,rfl⟩
 have hle:Lib.countByte s.data.toList 32≤s.size:=by rw [size_lst];exact List.count_le_length
 have hw:(zC2 s).length=N:=by rw [words_cnt,hN]
 have S:=fun w=>Any.strings_genSplit_core Tryz.lays221 (by kernel_rfl) s ⟨#[32]⟩ 0 (-1) N w (by omega) (by decide) (Nat.zero_le _)
  (fun x c hx=>(Tryz.strings_Index_one x 32 _).mono fun e w' ⟨h1,h2⟩=>⟨by rw [h1,indexB_32],h2⟩)
  ((Any.strings_Count_one Tryz.lays138 s 32 w).mono fun e w' ⟨h1,h2⟩=>⟨by rw [h1,countB_32],h2⟩) (by decide) (by decide) (by rw [if_pos (by decide),countB_32];omega)
 rw [splitB_words (N - 1) s (by omega),hw] at S
 have S:Hid (∀w:World,Calls Tryz.prog 89 #[.string s,.string ⟨#[32]⟩,.int .i64 0,.int .i64 (-1)] w fun e w'=>e= .returned (.slice (some ⟨w.heap.size,0,none⟩) N N)∧w'=w.alloc (.cells (Lib.cellsOf (zC2 s) N) 9)):=S
 have hcells:Lib.cellsOf (zC2 s) N=((zC2 s).map Value.string).toArray:=by
  unfold Lib.cellsOf
  rw [hw,Nat.sub_self]
  simp
 have HF:Hid (∀w:World,StrAt (w.alloc (.cells (Lib.cellsOf (zC2 s) N) 9)) w.heap.size 0 N (fun k=>(zC2 s).getD k ByteArray.empty)):=fun w=>by
  rw [hcells]
  refine ⟨by simp,fun k hk=>?_⟩
  have:=(Blk.new w 9 ((zC2 s).map Value.string).toArray).cell k
  rw [Nat.zero_add,this]
  have hk':k<(zC2 s).length:=by omega
  simp [List.getD,hk']
 rw [hw]
 clear hle hN hs hw hcells
 go_enter Tryz.func77,Tryz.ntmps77
 go_wp2_with (first |(go_at_call 89;(with_reducible refine (S.out _).mono ?_);rintro e w' ⟨rfl,rfl⟩))
 go_ret
 exact ⟨rfl,HF.out _,(bR _ _).alloc (nl _) _⟩
end Go.Proofs.YtghefgifhebniaaGreatDoor

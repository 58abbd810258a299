/- Merged texts of these proofs: Env, Strs, Fmt, RowP, RwT, JoinP. -/
import Derived.Test.YtchakniaoeodmaaGreatDoorBase
import Derived.Test.YtchakniaoeodmaaGreatDoorNumeral
import Derived.Test.YtchakniaoeodmaaGreatDoorShelf
import Derived.Lib.AppendIntMem
import Derived.Lib.ConvBytes
import Derived.Laws.BytesString
import Derived.Laws.IdiomStrings
import Derived.Lib.Join
import Derived.Lib.Bytealg
namespace Go.Proofs.YtchakniaoeodmaaGreatDoor
open Go.RowKit
set_option linter.unusedVariables false
set_option linter.unusedSimpArgs false
def Env (w : World) : Prop := Lib.TabIs Tryz.prog w "internal/strconv.uint64pow10" .u64 Lib.pow10Tab ∧ (∃ tp p, w.var? Tryz.prog "strconv.ErrSyntax" = some #[.iface tp p]) ∧ (∃ tp p, w.var? Tryz.prog "strconv.ErrRange" = some #[.iface tp p])
theorem zS8 {P:Program} {w w':World} {n:String} {cs:Array Value} (h:w.var? P n=some cs) (hb:Below w.heap.size w w'):w'.var? P n=some cs:=by
 unfold World.var? at h⊢
 cases hg:P.globalNamed n with
 |none=>rw [hg] at h;cases h
 |some g=>
  rw [hg] at h
  have hlt:g<w.heap.size:=by
   rcases Nat.lt_or_ge g w.heap.size with h1 |h1
   ·exact h1
   ·simp only [Option.bind_some,Array.getElem?_eq_none h1] at h;cases h
  simp only [Option.bind_some,hb.block g hlt]
  exact h
theorem Env.below {w w':World} (h:Env w) (hb:Below w.heap.size w w'):Env w':=by
 obtain ⟨h1,⟨tp,p,h2⟩,⟨tq,q,h3⟩⟩:=h
 exact ⟨zS8 h1 hb,⟨tp,p,zS8 h2 hb⟩,⟨tq,q,zS8 h3 hb⟩⟩
theorem Env.at {w w':World} {B:Nat} (h:Env w) (hB:w.heap.size≤B) (hb:Below B w w'):Env w':=h.below (hb.mono hB)
theorem zC1 {a b:ByteArray} (h:a.toList=b.toList):a=b:=by
 rw [ByteArray.toList_eq,ByteArray.toList_eq] at h
 obtain ⟨⟨l⟩⟩:=a
 obtain ⟨⟨m⟩⟩:=b
 have:l=m:=h
 rw [this]
def StrAt (w:World) (b off n:Nat) (X:Nat→ByteArray):Prop:=b<w.heap.size∧∀k,k<n→w.cell? ⟨b,off+k,none⟩=some (.string (X k))
theorem StrAt.below {w w':World} {B b off n:Nat} {X:Nat→ByteArray} (h:StrAt w b off n X) (hb:Below B w w') (hB:b<B):StrAt w' b off n X:=
 ⟨Nat.lt_of_lt_of_le h.1 (nT (nl _) hb.size),fun k hk=>(hb.cell (p:=⟨b,off+k,none⟩) hB).trans (h.2 k hk)⟩
def StrIn (w:World) (A:Option Addr) (n:Nat) (X:Nat→ByteArray):Prop:=n≤9223372036854775807∧(n=0∨∃b off,A=some ⟨b,off,none⟩∧StrAt w b off n X)
theorem StrIn.below {w w':World} {B n:Nat} {A:Option Addr} {X:Nat→ByteArray} (h:StrIn w A n X) (hB:w.heap.size≤B) (hb:Below B w w'):StrIn w' A n X:=by
 refine ⟨h.1,?_⟩
 rcases h.2 with h0 |⟨b,off,hA,ht⟩
 ·exact .inl h0
 ·exact .inr ⟨b,off,hA,ht.below hb (Nat.lt_of_lt_of_le ht.1 hB)⟩
theorem StrIn.at {w:World} {A:Option Addr} {n k:Nat} {X:Nat→ByteArray} (h:StrIn w A n X) (hk:k<n):∃b off,A=some ⟨b,off,none⟩∧b<w.heap.size∧w.cell? ⟨b,off+k,none⟩=some (.string (X k)):=by
 rcases h.2 with h0 |⟨b,off,hA,ht⟩
 ·omega
 ·exact ⟨b,off,hA,ht.1,ht.2 k hk⟩
def FirstAt (p:Nat→Bool) (n k:Nat):Prop:=k≤n∧(∀j,j<k→p j=false)∧(k<n→p k=true)
theorem zG8 (p:Nat→Bool):∀n,∃k,FirstAt p n k:=by
 intro n
 induction n with
 |zero=>exact ⟨0,nl _,fun j hj=>absurd hj (by omega),fun h=>absurd h (by omega)⟩
 |succ n ih=>
  obtain ⟨k,h1,h2,h3⟩:=ih
  by_cases hk:k<n
  ·exact ⟨k,by omega,h2,fun _=>h3 hk⟩
  ·have:k=n:=by omega
   subst this
   cases hp:p k with
   |true=>exact ⟨k,by omega,h2,fun _=>hp⟩
   |false=>exact ⟨k+1,by omega,fun j hj=>by
     rcases Nat.lt_or_ge j k with h |h
     ·exact h2 j h
     ·have:j=k:=by omega
      rw [this];exact hp,fun h=>absurd h (by omega)⟩
theorem zD7 {p:Nat→Bool} {n k i:Nat} (h:FirstAt p n k) (hi:i<n) (hik:i≤k):(p i=true∧i=k)∨(p i=false∧i+1≤k):=by
 rcases Nat.lt_or_ge i k with h1 |h1
 ·exact .inr ⟨h.2.1 i h1,h1⟩
 ·have:i=k:=by omega
  subst this
  exact .inl ⟨h.2.2 hi,rfl⟩
theorem zF9 {p:Nat→Bool} {n k:Nat} (h:FirstAt p n k):(k<n)↔∃j,j<n∧p j=true:=by
 constructor
 ·intro hk;exact ⟨k,hk,h.2.2 hk⟩
 ·rintro ⟨j,hj,hp⟩
  rcases Nat.lt_or_ge j k with g |g
  ·rw [h.2.1 j g] at hp;cases hp
  ·omega
theorem zL0 (o:ByteArray):o.size=o.data.toList.length:=(Array.length_toList (xs:=o.data)).symm
def DInv (u N:Nat) (o:ByteArray):Prop:=(o.data.toList=[]∧N=u)∨(0<N∧0<o.size∧Lib.decDigits u=Lib.decDigits N++o.data.toList)∨(N=0∧0<o.size∧o.data.toList=Lib.decDigits u)
theorem DInv.size {u N:Nat} {o:ByteArray} (h:DInv u N o) (hu:u<9223372036854775808):o.size≤30:=by
 have h19:(Lib.decDigits u).length≤19:=by
  rw [Lib.decDigits_length]
  exact zG3 19 u (by decide) (Nat.lt_of_lt_of_le hu (by decide))
 have e:=zL0 o
 rcases h with ⟨h,_⟩|⟨_,_,h⟩|⟨_,_,h⟩
 ·rw [e,h];simp
 ·rw [h,List.length_append] at h19;omega
 ·rw [e,h];omega
theorem DInv.step {u N:Nat} {o b:ByteArray} (h:DInv u N o) (hN:0<N∨o.size=0) (hb:b.data.toList=[UInt8.ofNat (48+N % 10)]):DInv u (N / 10) (b++o):=by
 have es:(b++o).data.toList=UInt8.ofNat (48+N % 10)::o.data.toList:=by rw [ByteArray.data_append];simp [hb]
 have e1:0<(b++o).size:=by
  rw [zL0,es];simp
 have key:Lib.decDigits u=Lib.decDigits N++o.data.toList:=by
  rcases h with ⟨h,rfl⟩|⟨_,_,h⟩|⟨h0,h1,_⟩
  ·rw [h,List.append_nil]
  ·exact h
  ·omega
 by_cases h10:N<10
 ·refine .inr (.inr ⟨by omega,e1,?_⟩)
  rw [es,key,Lib.decDigits_one h10,Nat.mod_eq_of_lt h10]
  rfl
 ·refine .inr (.inl ⟨by omega,e1,?_⟩)
  rw [es,key]
  conv=>lhs;rw [Lib.decDigits,dif_neg h10]
  simp
theorem DInv.done {u:Nat} {o:ByteArray} (h:DInv u 0 o) (ho:0<o.size):o.data.toList=Lib.decDigits u:=by
 rcases h with ⟨h,_⟩|⟨h,_⟩|⟨_,_,h⟩
 ·have:=zL0 o
  rw [h] at this;simp only [List.length_nil] at this;omega
 ·omega
 ·exact h
theorem list_of {o:ByteArray} {t:List UInt8} (h:o.data.toList=t):o=⟨t.toArray⟩:=by subst h;obtain ⟨⟨l⟩⟩:=o;rfl
def byt (s:ByteArray) (k:Nat):Nat:=(s.data.toList.getD k 0).toNat
def badAt (s:ByteArray):Prop:=s.size=0∨∃j,j<s.size∧(byt s j<33∨126<byt s j)
def sp:ByteArray:=⟨#[32]⟩
def putR (W:Int) (out:List ByteArray) (s:ByteArray):List ByteArray:=
 if out=[] then [s] else if ((out.getD (out.length - 1) ByteArray.empty).size:Int)+1+(s.size:Int)≤W then out.set (out.length - 1) (out.getD (out.length - 1) ByteArray.empty++(sp++s)) else out++[s]
def rowsTo (W:Int) (X:Nat→ByteArray):Nat→List ByteArray
 |0=>[]
 |i+1=>putR W (rowsTo W X i) (X i)
inductive RowsIs (W:Int) (n:Nat) (X:Nat→ByteArray):List ByteArray→Int→Prop where
 |range (h:W<1∨500<W):RowsIs W n X [] 2
 |form (h:1≤W∧W≤500) (hb:∃i,i<n∧badAt (X i)):RowsIs W n X [] 7
 |big (h:1≤W∧W≤500) (hg:∀i,i<n→¬badAt (X i)) (hb:∃i,i<n∧W<((X i).size:Int)):RowsIs W n X [] 5
 |ok (h:1≤W∧W≤500) (hg:∀i,i<n→¬badAt (X i)) (hs:∀i,i<n→((X i).size:Int)≤W):RowsIs W n X (rowsTo W X n) 0
theorem RowsIs.uniq {W:Int} {n:Nat} {X:Nat→ByteArray} {R R':List ByteArray} {e e':Int} (h:RowsIs W n X R e) (h':RowsIs W n X R' e'):R=R'∧e=e':=by
 cases h with
 |range h=>cases h' with
  |range h'=>exact ⟨rfl,rfl⟩
  |form h' _=>omega
  |big h' _ _=>omega
  |ok h' _ _=>omega
 |form h hb=>cases h' with
  |range h'=>omega
  |form h' _=>exact ⟨rfl,rfl⟩
  |big h' hg _=>obtain ⟨i,hi,hx⟩:=hb;exact absurd hx (hg i hi)
  |ok h' hg _=>obtain ⟨i,hi,hx⟩:=hb;exact absurd hx (hg i hi)
 |big h hg hb=>cases h' with
  |range h'=>omega
  |form h' hb'=>obtain ⟨i,hi,hx⟩:=hb';exact absurd hx (hg i hi)
  |big h' _ _=>exact ⟨rfl,rfl⟩
  |ok h' _ hs=>obtain ⟨i,hi,hx⟩:=hb;have:=hs i hi;omega
 |ok h hg hs=>cases h' with
  |range h'=>omega
  |form h' hb'=>obtain ⟨i,hi,hx⟩:=hb';exact absurd hx (hg i hi)
  |big h' _ hb'=>obtain ⟨i,hi,hx⟩:=hb';have:=hs i hi;omega
  |ok h' _ _=>exact ⟨rfl,rfl⟩
def sc (L:List ByteArray):List Value:=L.map Value.string
theorem sc_append (a b:List ByteArray):sc (a++b)=sc a++sc b:=by unfold sc;rw [List.map_append]
theorem sc_set (L:List ByteArray) (k:Nat) (x:ByteArray):(sc L).set k (.string x)=sc (L.set k x):=by unfold sc;rw [List.map_set]
theorem sc_at {L:List ByteArray} {k:Nat} (h:k<L.length):(sc L)[k]?=some (.string (L.getD k ByteArray.empty)):=by
 unfold sc;simp [List.getD,h]
theorem str_of_own {w:World} {base g cap:Nat} {t:TypeId} {L:List ByteArray} (h:w.ownsRow base t 1 (.slice (some ⟨g,0,none⟩) L.length cap) L.length (sc L)):StrAt w g 0 L.length (fun k=>L.getD k ByteArray.empty):=by
 refine ⟨(h.lt g rfl).2,fun k hk=>?_⟩
 rw [Nat.zero_add,h.cellAt k (by omega),sc_at hk]
def RowsPost (w:World) (W:Int) (n:Nat) (X:Nat→ByteArray) (e:Ending) (w':World):Prop:=∃(R:List ByteArray) (err:Int) (A:Option Addr) (cap N:Nat),N=R.length∧RowsIs W n X R err∧
 e= .returned (.tuple #[.slice A N cap,.int .i64 err])∧StrIn w' A N (fun k=>R.getD k ByteArray.empty)∧Below w.heap.size w w'∧N≤cap
def WMem (w wr:World) (g:Nat) (W:Int):Prop:=Blk wr g 3 #[.int .i64 W]∧Below w.heap.size w wr
theorem WMem.call {w wr w':World} {g:Nat} {W:Int} (h:WMem w wr g W) (hb:Below wr.heap.size wr w'):WMem w w' g W:=⟨h.1.call hb,zA1 h.2 hb⟩
def RMem (w wr:World) (u:Value) (N:Nat) (R:List ByteArray):Prop:=wr.ownsRow w.heap.size 9 1 u N (sc R)∧Below w.heap.size w wr
theorem RMem.call {w wr w':World} {u:Value} {N:Nat} {R:List ByteArray} (h:RMem w wr u N R) (hb:Below wr.heap.size wr w'):RMem w w' u N R:=⟨zC0 h.1 hb,zA1 h.2 hb⟩
theorem RMem.app {w wr w':World} {u v:Value} {N:Nat} {R:List ByteArray} {x:ByteArray} (h:RMem w wr u N R) {cs:Array Value} (hown:w'.ownsRow w.heap.size 9 1 v (N+1) (sc R++[.string x])) (hg:(wr.alloc (.cells cs 9)).grownBy w' u.ownBlock):RMem w w' v (N+1) (R++[x]):=
 ⟨by rw [sc_append];exact hown,zK0 (h.1.alloc _) (h.2.alloc h.2.size _) hg⟩
theorem RMem.set {w wr:World} {g cap N k:Nat} {R:List ByteArray} {x:ByteArray} (h:RMem w wr (.slice (some ⟨g,0,none⟩) N cap) N R):RMem w (wr.setCell ⟨g,k,none⟩ (.string x)) (.slice (some ⟨g,0,none⟩) N cap) N (R.set k x):=by
 refine ⟨?_,h.2.setCell (p:=⟨g,k,none⟩) (h.1.lt g rfl).1 _⟩
 have:=(h.1.stored k (.string x)).1
 rw [sc_set] at this
 exact this
theorem RMem.post {w w1 wr:World} {W:Int} {n:Nat} {X:Nat→ByteArray} {u:Value} {R:List ByteArray} {N:Nat} (h:RMem w1 wr u N R) (hw:Below w.heap.size w w1) (hN:N=R.length) (h300:N≤300) (hR:RowsIs W n X R 0):RowsPost w W n X (.returned (.tuple #[u,.int .i64 0])) wr:=by
 rcases h.1.2 with ⟨hv,h0⟩|⟨g,cap,cur,hv,_,_,hnc,_⟩
 ·exact ⟨R,0,none,0,N,hN,hR,by rw [hv,h0],⟨by omega,.inl h0⟩,zA1 hw h.2,by omega⟩
 ·have hown:=h.1
  rw [hv,hN] at hown
  exact ⟨R,0,some ⟨g,0,none⟩,cap,N,hN,hR,by rw [hv],⟨by omega,.inr ⟨g,0,rfl,by rw [hN];exact str_of_own hown⟩⟩,zA1 hw h.2,hnc⟩
theorem RMem.form {w wr:World} {u:Value} {N:Nat} {R:List ByteArray} (h:RMem w wr u N R):∃A cap,u= .slice A N cap:=by
 rcases h.1.2 with ⟨hv,h0⟩|⟨g,cap,cur,hv,_⟩
 ·exact ⟨none,0,by rw [hv,h0]⟩
 ·exact ⟨_,cap,hv⟩
def jn (R:List ByteArray):List UInt8:=Lib.join (R.map (·.data.toList)) [32]
theorem zU7 (s:ByteArray):jn [s]=s.data.toList:=by unfold jn;exact Lib.join_one _ _
end Go.Proofs.YtchakniaoeodmaaGreatDoor

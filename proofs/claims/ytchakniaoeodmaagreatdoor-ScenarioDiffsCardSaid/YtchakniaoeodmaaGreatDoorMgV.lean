/- Merged texts of these proofs: LnP, Wds, LnT. -/
import Derived.Test.YtchakniaoeodmaaGreatDoorMgS
namespace Go.Proofs.YtchakniaoeodmaaGreatDoor
open Go
set_option linter.unusedVariables false
set_option linter.unusedSimpArgs false
theorem zH4 {v:Int} (h:near v):zF5 v:=zM5 h.1 h.2
def nBA (v:Int):ByteArray:=⟨(Lib.itoa v).toArray⟩
def tBA (T:List (Int×Int)):ByteArray:=⟨(txL (kX T) (kY T) T.length).toArray⟩
def ndB (x:Ndr):List ByteArray:=
 ⟨(ndK x).toArray⟩::x.nm::nBA x.ax::nBA x.ay::nBA x.iv::nBA x.gd::(if x.kd=3 then [] else if x.kd=2 then [if x.pt then nBA x.rs else ⟨#[45]⟩,tBA x.T] else [tBA x.T])
def lkB (x:Lkr):List ByteArray:=
 ⟨(lkK x).toArray⟩::x.nm::x.fr::x.tn::(if x.kd=1 then [nBA x.ln,nBA x.up,nBA x.dn,x.sc] else if x.kd=2 then [nBA x.up,nBA x.wd] else if x.kd=3 then [nBA x.up,nBA x.wd,nBA x.ht] else [nBA x.up,nBA x.dn,tBA x.T])
def ndT (x:Ndr):List UInt8:=jn (ndB x)
def lkT (x:Lkr):List UInt8:=jn (lkB x)
theorem jn_cons2 (a b:ByteArray) (r:List ByteArray):jn (a::b::r)=a.data.toList++32::jn (b::r):=by
 unfold jn
 simp [Lib.join_cons,Lib.joinTail]
theorem zB5 (a:ByteArray) (r:List ByteArray):(jn (a::r)).length≤a.data.toList.length+(1+(jn r).length):=by
 cases r with
 |nil=>rw [zU7];omega
 |cons b r=>rw [jn_cons2,List.length_append,List.length_cons];omega
theorem jn_len_nil:(jn []).length=0:=rfl
theorem nb_wlen {l:List UInt8} (h:wlen l=l.length):∀c,c∈l→wchB (c.toNat:Int)=true:=by
 unfold wlen at h
 intro c hc
 have e:l.takeWhile (fun c=>wchB (c.toNat:Int))=l:=(List.takeWhile_prefix _).eq_of_length h
 have ha:=List.all_takeWhile (p:=fun c:UInt8=>wchB (c.toNat:Int)) (l:=l)
 rw [e] at ha
 exact List.all_eq_true.1 ha c hc
theorem zM9 {l:List UInt8} (h:zD1 l=true):(32:UInt8)∉l∧(10:UInt8)∉l∧0<l.length∧l.length≤20:=by
 unfold zD1 at h
 simp only [Bool.and_eq_true,decide_eq_true_eq] at h
 obtain ⟨⟨⟨h1,h2⟩,_⟩,h4⟩:=h
 refine ⟨fun hc=>?_,fun hc=>?_,h1,h2⟩
 ·have:=nb_wlen h4 _ hc
  revert this;decide
 ·have:=nb_wlen h4 _ hc
  revert this;decide
theorem nb_wd {b:ByteArray} (h:zD1 b.data.toList=true):wdOK b:=by
 obtain ⟨h1,h2,h3,_⟩:=zM9 h
 exact ⟨fun e=>by rw [e] at h3;simp at h3,h1,h2⟩
def vNd (x:Ndr):Prop:=zQ1 x.nm x.kd x.ax x.ay x.iv x.gd x.T.length (kX x.T) (kY x.T) x.pt x.rs
def vLk (x:Lkr):Prop:=zR7 x.nm x.fr x.tn x.kd x.ln x.up x.dn x.sc x.wd x.ht x.T.length (kX x.T) (kY x.T)
theorem lv_near {v:Int} (h:lvP v):near v:=by unfold lvP at h;unfold near;omega
theorem po_near {v:Int} (h:poP v):near v:=by unfold poP at h;unfold near;omega
theorem zY4 {T:List (Int×Int)} (h:T.length=0):T=[]:=List.length_eq_zero_iff.1 h
theorem vNd.num {x:Ndr} (h:vNd x):near x.ax∧near x.ay∧near x.iv∧near x.gd∧near x.rs:=by
 obtain ⟨_,h2,h3,⟨h4,h5⟩,h6⟩:=h
 refine ⟨po_near h2,po_near h3,lv_near h4,lv_near h5,?_⟩
 rcases h6 with ⟨_,_,_,_,h⟩|⟨_,_,hc,⟨_,h⟩|⟨_,_,h,h'⟩⟩
 ·rw [h];unfold near;omega
 ·rw [h];unfold near;omega
 ·have:=hc.2.2.2.2
  unfold near;omega
theorem vNd.form {x:Ndr} (h:vNd x):formN x:=by
 obtain ⟨n1,n2,n3,n4,n5⟩:=h.num
 refine ⟨nb_wd h.1,zH4 n1,zH4 n2,zH4 n3,zH4 n4,?_⟩
 rcases h.2.2.2.2 with ⟨h1,h2,h3,h4,h5⟩|⟨h1,h2,hc,h4⟩
 ·exact .inr (.inr ⟨h1,zY4 h3,h4,h5⟩)
 ·rcases h1 with h1 |h1
  ·refine .inl ⟨h1,hc.1,?_⟩
   rcases h4 with h4 |⟨_,h5,_⟩
   ·exact h4
   ·omega
  ·refine .inr (.inl ⟨h1,hc.1,?_⟩)
   rcases h4 with h4 |⟨h5,_⟩
   ·exact .inl h4
   ·exact .inr ⟨h5,zH4 n5⟩
theorem sc_nil {b:ByteArray} (h:b.size=0):b=⟨#[]⟩:=by
 obtain ⟨⟨l⟩⟩:=b
 have:l.length=0:=h
 rw [List.length_eq_zero_iff.1 this]
theorem vLk.num {x:Lkr} (h:vLk x):near x.ln∧near x.up∧near x.dn∧near x.wd∧near x.ht:=by
 obtain ⟨_,_,_,_,h5,h6,h7⟩:=h
 refine ⟨?_,lv_near h5,lv_near h6,?_⟩
 ·rcases h7 with ⟨_,h,_⟩|⟨_,h,_⟩|⟨_,h,_⟩|⟨_,h,_⟩<;> unfold near<;> omega
 ·rcases h7 with ⟨_,_,_,h,h',_⟩|⟨_,_,_,_,h,h',_⟩|⟨_,_,_,_,h,h',_⟩|⟨_,_,_,_,h,h',_⟩<;> unfold near<;> omega
theorem vLk.form {x:Lkr} (h:vLk x):formL x:=by
 obtain ⟨n1,n2,n3,n4,n5⟩:=h.num
 refine ⟨nb_wd h.1,nb_wd h.2.1,nb_wd h.2.2.1,zH4 n2,?_⟩
 rcases h.2.2.2.2.2.2 with ⟨h1,h2,h3,h4,h5,h6⟩|⟨h1,h2,h3,h4,h5,h6,h7⟩|⟨h1,h2,h3,h4,h5,h6,h7⟩|⟨h1,h2,h3,h4,h5,h6,h7⟩
 ·exact .inl ⟨h1,zH4 n1,zH4 n3,nb_wd h3,h4,h5,zY4 h6⟩
 ·exact .inr (.inl ⟨h1,h2,h3,sc_nil h4,zH4 n4,h6,zY4 h7⟩)
 ·exact .inr (.inr (.inl ⟨h1,h2,h3,sc_nil h4,zH4 n4,zH4 n5,zY4 h7⟩))
 ·exact .inr (.inr (.inr ⟨h1,h2,zH4 n3,sc_nil h4,h5,h6,h7.1⟩))
def lineOK (l:List UInt8):Prop:=∃a,l=a++[10]∧(10:UInt8)∉a
theorem Runs.trans {N:List Ndr} {L:List Lkr} {a b:List (List UInt8)} {N1 L1 N2 L2} (h:Runs N L a N1 L1) (h':Runs N1 L1 b N2 L2):Runs N L (a++b) N2 L2:=by
 induction h with
 |nil=>exact h'
 |cons h1 _ ih=>exact .cons h1 (ih h')
theorem Runs.head {a b:List (List UInt8)}:∀{N:List Ndr} {L:List Lkr} {N2 L2},Runs N L (a++b) N2 L2→∃N1 L1,Runs N L a N1 L1:=by
 induction a with
 |nil=>intro N L N2 L2 _;exact ⟨N,L,.nil _ _⟩
 |cons x a ih=>
  intro N L N2 L2 h
  cases h with
  |cons h1 h2=>
   obtain ⟨N1,L1,h3⟩:=ih h2
   exact ⟨N1,L1,.cons h1 h3⟩
theorem Runs.count {N:List Ndr} {L:List Lkr} {ls:List (List UInt8)} {N1 L1} (h:Runs N L ls N1 L1):N1.length+L1.length=N.length+L.length+ls.length:=by
 induction h with
 |nil=>simp
 |cons h1 _ ih=>
  rw [ih,List.length_cons]
  rcases h1 with ⟨l,z,_,_,e,e2,e3⟩|⟨l,y,_,_,e,e2⟩
  ·rw [e,e2,e3];simp;omega
  ·rw [e,e2];simp;omega
theorem nd_min {l:List UInt8} {x:Ndr} (h:IsNd l x):4≤l.length:=by
 have h1:=wds_len l
 rw [h.2] at h1
 simp [ndW] at h1
 omega
theorem lk_min {l:List UInt8} {x:Lkr} (h:IsLk l x):4≤l.length:=by
 have h1:=wds_len l
 rw [h.2] at h1
 simp [lkW] at h1
 have:2≤(if x.kd=1 then [Lib.itoa x.ln,Lib.itoa x.up,Lib.itoa x.dn,x.sc.data.toList] else if x.kd=2 then [Lib.itoa x.up,Lib.itoa x.wd] else if x.kd=3 then [Lib.itoa x.up,Lib.itoa x.wd,Lib.itoa x.ht] else Lib.itoa x.up::Lib.itoa x.dn::twd x.T).length:=by
  repeat' split
  all_goals simp
 omega
theorem Runs.bytes {N:List Ndr} {L:List Lkr} {ls:List (List UInt8)} {N1 L1} (h:Runs N L ls N1 L1):5*ls.length≤ls.flatten.length:=by
 induction h with
 |nil=>simp
 |cons h1 _ ih=>
  rw [List.length_cons,List.flatten_cons,List.length_append]
  rcases h1 with ⟨l,z,rfl,hz,_⟩|⟨l,y,rfl,hy,_⟩
  ·have:=nd_min hz
   rw [List.length_append,List.length_cons,List.length_nil];omega
  ·have:=lk_min hy
   rw [List.length_append,List.length_cons,List.length_nil];omega
theorem it_len7 {v:Int} (h1:0≤v) (h2:v≤8388608):(Lib.itoa v).length≤7:=by
 rw [zJ7 (by omega),Lib.decDigits_length]
 exact zG3 7 _ (by decide) (by omega)
theorem it_len16 {v:Int} (h1:0≤v) (h2:v≤1125899906842624):(Lib.itoa v).length≤16:=by
 rw [zJ7 (by omega),Lib.decDigits_length]
 exact zG3 16 _ (by decide) (by omega)
theorem it_len13 {v:Int} (h1:0≤v) (h2:v≤1099511627776):(Lib.itoa v).length≤13:=by
 rw [zJ7 (by omega),Lib.decDigits_length]
 exact zG3 13 _ (by decide) (by omega)
theorem txs_len {X Y:Nat→Int} {M:Nat}:∀n,(∀k,k<n→(ktx (X k) (Y k)).length≤M)→(txL X Y n).length≤n*(M+1)
 |0,_=>by simp [txL]
 |n+1,h=>by
  have ih:=txs_len n fun k hk=>h k (by omega)
  have h1:=h n (by omega)
  unfold txL
  rw [Nat.add_mul]
  split<;> simp only [List.length_append,List.length_cons,List.length_nil]<;> omega
theorem tabl_mono {n:Nat} {X Y:Nat→Int} (h:TabOK n X Y):∀k,k<n→(X 0≤X k∧Y 0≤Y k)∧(X k≤X (n - 1)∧Y k≤Y (n - 1)):=by
 have up:∀k,k<n→X 0≤X k∧Y 0≤Y k:=by
  intro k
  induction k with
  |zero=>intro _;exact ⟨Int.le_refl _,Int.le_refl _⟩
  |succ k ih=>
   intro hk
   have h1:=ih (by omega)
   have h2:=(h.2.2 (k+1) hk).2.2 (by omega)
   rw [Nat.add_sub_cancel] at h2
   omega
 have down:∀d k,k+d=n - 1→X k≤X (n - 1)∧Y k≤Y (n - 1):=by
  intro d
  induction d with
  |zero=>intro k e;rw [show k=n - 1 by omega];exact ⟨Int.le_refl _,Int.le_refl _⟩
  |succ d ih=>
   intro k e
   have h1:=ih (k+1) (by omega)
   have h2:=(h.2.2 (k+1) (by omega)).2.2 (by omega)
   rw [Nat.add_sub_cancel] at h2
   omega
 intro k hk
 exact ⟨up k hk,down (n - 1 - k) k (by omega)⟩
theorem ktx_len {x y:Int} {a b:Nat} (h1:(Lib.itoa x).length≤a) (h2:(Lib.itoa y).length≤b):(ktx x y).length≤a+1+b:=by
 unfold ktx
 simp only [List.length_append,List.length_cons]
 omega
theorem vNd.tab {x:Ndr} (h:vNd x) (hk:x.kd≠3):TabOK x.T.length (kX x.T) (kY x.T)∧(txL (kX x.T) (kY x.T) x.T.length).length≤2500:=by
 obtain ⟨_,_,_,⟨h4,h5⟩,h6⟩:=h
 rcases h6 with h6 |⟨_,h7,hc,_⟩
 ·exact absurd h6.1 hk
 refine ⟨hc.1,?_⟩
 have hm:=tabl_mono hc.1
 have h8:=txs_len (X:=kX x.T) (Y:=kY x.T) (M:=24) x.T.length fun k hk=>by
  have:=hm k hk
  have e1:=hc.2.1
  have e2:=hc.2.2.1
  have e3:=hc.2.2.2.1
  have e4:=hc.2.2.2.2
  unfold lvP at h4 h5
  exact ktx_len (a:=7) (b:=16) (it_len7 (by omega) (by omega)) (it_len16 (by omega) (by omega))
 have:=hc.1.2.1
 omega
theorem vLk.tab {x:Lkr} (h:vLk x) (hk:x.kd≠1∧x.kd≠2∧x.kd≠3):TabOK x.T.length (kX x.T) (kY x.T)∧(txL (kX x.T) (kY x.T) x.T.length).length≤2200:=by
 obtain ⟨_,_,_,_,_,_,h7⟩:=h
 rcases h7 with h7 |h7 |h7 |⟨_,_,_,_,_,_,hc⟩
 ·exact absurd h7.1 hk.1
 ·exact absurd h7.1 hk.2.1
 ·exact absurd h7.1 hk.2.2
 refine ⟨hc.1,?_⟩
 have h8:=txs_len (X:=kX x.T) (Y:=kY x.T) (M:=21) x.T.length fun k hk=>by
  have:=hc.2 k hk
  exact ktx_len (a:=7) (b:=13) (it_len7 (by omega) (by omega)) (it_len13 (by omega) (by omega))
 have:=hc.1.2.1
 omega
theorem zI1 {v:Int} (h:near v):(nBA v).data.toList.length≤19:=itoa_len h
theorem vNd.len {x:Ndr} (h:vNd x):(ndT x).length≤2640:=by
 obtain ⟨n1,n2,n3,n4,n5⟩:=h.num
 have l1:=zI1 n1
 have l2:=zI1 n2
 have l3:=zI1 n3
 have l4:=zI1 n4
 have l5:=zI1 n5
 have l6:=(zM9 h.1).2.2.2
 have l7:(⟨(ndK x).toArray⟩:ByteArray).data.toList.length≤7:=by
  show (ndK x).length≤7
  unfold ndK
  repeat' split
  all_goals decide
 have l8:x.kd≠3→(tBA x.T).data.toList.length≤2500:=fun hk=>(h.tab hk).2
 have l9:(if x.pt then nBA x.rs else (⟨#[45]⟩:ByteArray)).data.toList.length≤19:=by
  split
  ·exact l5
  ·decide
 unfold ndT ndB
 refine nT (zB5 _ _) ?_
 have c1:=zB5 x.nm (nBA x.ax::nBA x.ay::nBA x.iv::nBA x.gd::(if x.kd=3 then [] else if x.kd=2 then [if x.pt then nBA x.rs else ⟨#[45]⟩,tBA x.T] else [tBA x.T]))
 have c2:=zB5 (nBA x.ax) (nBA x.ay::nBA x.iv::nBA x.gd::(if x.kd=3 then [] else if x.kd=2 then [if x.pt then nBA x.rs else ⟨#[45]⟩,tBA x.T] else [tBA x.T]))
 have c3:=zB5 (nBA x.ay) (nBA x.iv::nBA x.gd::(if x.kd=3 then [] else if x.kd=2 then [if x.pt then nBA x.rs else ⟨#[45]⟩,tBA x.T] else [tBA x.T]))
 have c4:=zB5 (nBA x.iv) (nBA x.gd::(if x.kd=3 then [] else if x.kd=2 then [if x.pt then nBA x.rs else ⟨#[45]⟩,tBA x.T] else [tBA x.T]))
 have c5:=zB5 (nBA x.gd) ((if x.kd=3 then [] else if x.kd=2 then [if x.pt then nBA x.rs else ⟨#[45]⟩,tBA x.T] else [tBA x.T]))
 have c6:(jn (if x.kd=3 then [] else if x.kd=2 then [if x.pt then nBA x.rs else ⟨#[45]⟩,tBA x.T] else [tBA x.T])).length≤2520:=by
  split
  ·rw [jn_len_nil];omega
  ·rename_i hk
   have:=l8 hk
   split
   ·have c7:=zB5 (if x.pt then nBA x.rs else ⟨#[45]⟩) [tBA x.T]
    rw [zU7] at c7
    omega
   ·rw [zU7];omega
 omega
theorem vLk.len {x:Lkr} (h:vLk x):(lkT x).length≤2330:=by
 obtain ⟨n1,n2,n3,n4,n5⟩:=h.num
 have l1:=zI1 n1
 have l2:=zI1 n2
 have l3:=zI1 n3
 have l4:=zI1 n4
 have l5:=zI1 n5
 have l6:=(zM9 h.1).2.2.2
 have l6':=(zM9 h.2.1).2.2.2
 have l6'':=(zM9 h.2.2.1).2.2.2
 have l7:(⟨(lkK x).toArray⟩:ByteArray).data.toList.length≤4:=by
  show (lkK x).length≤4
  unfold lkK
  repeat' split
  all_goals decide
 have l8:(x.kd≠1∧x.kd≠2∧x.kd≠3)→(tBA x.T).data.toList.length≤2200:=fun hk=>(h.tab hk).2
 have l9:x.sc.data.toList.length≤20:=by
  rcases h.2.2.2.2.2.2 with ⟨_,_,h3,_⟩|⟨_,_,_,h3,_⟩|⟨_,_,_,h3,_⟩|⟨_,_,_,h3,_⟩
  ·exact (zM9 h3).2.2.2
  all_goals (rw [sc_nil h3];decide)
 unfold lkT lkB
 refine nT (zB5 _ _) ?_
 have c1:=zB5 x.nm (x.fr::x.tn::(if x.kd=1 then [nBA x.ln,nBA x.up,nBA x.dn,x.sc] else if x.kd=2 then [nBA x.up,nBA x.wd] else if x.kd=3 then [nBA x.up,nBA x.wd,nBA x.ht] else [nBA x.up,nBA x.dn,tBA x.T]))
 have c2:=zB5 x.fr (x.tn::(if x.kd=1 then [nBA x.ln,nBA x.up,nBA x.dn,x.sc] else if x.kd=2 then [nBA x.up,nBA x.wd] else if x.kd=3 then [nBA x.up,nBA x.wd,nBA x.ht] else [nBA x.up,nBA x.dn,tBA x.T]))
 have c3:=zB5 x.tn ((if x.kd=1 then [nBA x.ln,nBA x.up,nBA x.dn,x.sc] else if x.kd=2 then [nBA x.up,nBA x.wd] else if x.kd=3 then [nBA x.up,nBA x.wd,nBA x.ht] else [nBA x.up,nBA x.dn,tBA x.T]))
 have c6:(jn (if x.kd=1 then [nBA x.ln,nBA x.up,nBA x.dn,x.sc] else if x.kd=2 then [nBA x.up,nBA x.wd] else if x.kd=3 then [nBA x.up,nBA x.wd,nBA x.ht] else [nBA x.up,nBA x.dn,tBA x.T])).length≤2241:=by
  split
  ·have d1:=zB5 (nBA x.ln) [nBA x.up,nBA x.dn,x.sc]
   have d2:=zB5 (nBA x.up) [nBA x.dn,x.sc]
   have d3:=zB5 (nBA x.dn) [x.sc]
   rw [zU7] at d3
   omega
  split
  ·have d1:=zB5 (nBA x.up) [nBA x.wd]
   rw [zU7] at d1
   omega
  split
  ·have d1:=zB5 (nBA x.up) [nBA x.wd,nBA x.ht]
   have d2:=zB5 (nBA x.wd) [nBA x.ht]
   rw [zU7] at d2
   omega
  ·rename_i k1 k2 k3
   have:=l8 ⟨k1,k2,k3⟩
   have d1:=zB5 (nBA x.up) [nBA x.dn,tBA x.T]
   have d2:=zB5 (nBA x.dn) [tBA x.T]
   rw [zU7] at d2
   omega
 omega
open Go.RowKit
inductive Itw
 |s (b:ByteArray)
 |n (z:Int)
 |t (g off c:Nat) (T:List (Int×Int))
def Itw.val:Itw→Value
 | .s b=>.iface 9 (.string b)
 | .n z=>.iface 3 (.int .i64 z)
 | .t g off c T=>.iface 28 (.slice (some ⟨g,off,none⟩) T.length c)
def Itw.txt:Itw→ByteArray
 | .s b=>b
 | .n z=>nBA z
 | .t _ _ _ T=>tBA T
def Itw.ok (w:World):Itw→Prop
 | .s b=>b.size≤600
 | .n z=>near z
 | .t g off _ T=>TabOK T.length (kX T) (kY T)∧TabAt w g off T.length (kX T) (kY T)∧(tBA T).size≤2500
theorem Itw.size {w:World} {x:Itw} (h:x.ok w):x.txt.size≤2500:=by
 cases x with
 |s b=>exact nT (show b.size≤600 from h) (by omega)
 |n z=>exact nT (zI1 (show near z from h)) (by omega)
 |t g off c T=>exact h.2.2
def IwAt (w:World) (b off n:Nat) (I:Nat→Itw):Prop:=b<w.heap.size∧∀k,k<n→w.cell? ⟨b,off+k,none⟩=some (I k).val
theorem IwAt.below {w w':World} {B b off n:Nat} {I:Nat→Itw} (h:IwAt w b off n I) (hb:Below B w w') (hB:b<B):IwAt w' b off n I:=
 ⟨Nat.lt_of_lt_of_le h.1 hb.size,fun k hk=>(hb.cell (p:=⟨b,off+k,none⟩) hB).trans (h.2 k hk)⟩
theorem Itw.ok.below {w w':World} {x:Itw} (h:x.ok w) (hb:Below w.heap.size w w'):x.ok w':=by
 cases x with
 |s b=>exact h
 |n z=>exact h
 |t g off c T=>exact ⟨h.1,h.2.1.below hb h.2.1.1,h.2.2⟩
end Go.Proofs.YtchakniaoeodmaaGreatDoor

/- Merged texts of these proofs: PrsP, Kl, NtP, NtQ, Kt. -/
import Derived.Test.YtchakniaoeodmaaGreatDoorNumeral
import Derived.Test.YtchakniaoeodmaaGreatDoorTab
import Derived.Lib.AtoiAllCases
namespace Go.Proofs.YtchakniaoeodmaaGreatDoor
open Go
set_option linter.unusedVariables false
set_option linter.unusedSimpArgs false
def wds:List UInt8→List (List UInt8)
 |[]=>[[]]
 |c::r=>if c=32 then []::wds r else (match wds r with |[]=>[[c]]|h::t=>(c::h)::t)
theorem wds_ne (l:List UInt8):wds l≠[]:=by
 induction l with
 |nil=>simp [wds]
 |cons c r ih=>
  unfold wds
  split
  ·simp
  ·split<;> simp
theorem wds_plain {l:List UInt8} (h:(32:UInt8)∉l):wds l=[l]:=by
 induction l with
 |nil=>rfl
 |cons c r ih=>
  have hc:¬c=32:=fun e=>h (by simp [e])
  unfold wds
  rw [if_neg hc,ih (fun e=>h (by simp [e]))]
theorem wds_cut (a b:List UInt8):wds (a++32::b)=wds a++wds b:=by
 induction a with
 |nil=>simp [wds]
 |cons c r ih=>
  by_cases hc:c=32
  ·simp only [List.cons_append,wds,if_pos hc,ih]
  ·simp only [List.cons_append,wds,if_neg hc,ih]
   cases e:wds r with
   |nil=>exact absurd e (wds_ne r)
   |cons h t=>simp
theorem wds_len (l:List UInt8):(wds l).length≤l.length+1:=by
 induction l with
 |nil=>simp [wds]
 |cons c r ih=>
  unfold wds
  split
  ·simp;omega
  ·cases e:wds r with
   |nil=>simp
   |cons h t=>rw [e] at ih;simp at ih⊢;omega
theorem dec_byte:∀(u:Nat) (c:UInt8),c∈Lib.decDigits u→48≤c.toNat∧c.toNat≤57:=by
 intro u
 induction u using Nat.strongRecOn with
 |_ u ih=>
  intro c hc
  by_cases hu:u<10
  ·rw [Lib.decDigits_one hu] at hc
   have e:=List.mem_singleton.1 hc
   rw [e,zH3 hu];omega
  ·rw [Lib.decDigits,dif_neg hu] at hc
   rcases List.mem_append.1 hc with h |h
   ·exact ih _ (by omega) c h
   ·have e:=List.mem_singleton.1 h
    rw [e,zH3 (by omega)];omega
theorem itoa_byte {v:Int} {c:UInt8} (h:c∈Lib.itoa v):c=45∨(48≤c.toNat∧c.toNat≤57):=by
 by_cases hv:v<0
 ·rw [zU9 hv] at h
  rcases List.mem_cons.1 h with h |h
  ·exact .inl h
  ·exact .inr (dec_byte _ c h)
 ·rw [zJ7 hv] at h
  exact .inr (dec_byte _ c h)
theorem itoa_no {v:Int} {c:UInt8} (h1:c≠45) (h2:c.toNat<48∨57<c.toNat):c∉Lib.itoa v:=fun h=>by
 rcases itoa_byte h with e |e
 ·exact h1 e
 ·omega
theorem itoa_no32 (v:Int):(32:UInt8)∉Lib.itoa v:=itoa_no (by decide) (.inl (by decide))
theorem zU8 (v:Int):(58:UInt8)∉Lib.itoa v:=itoa_no (by decide) (.inr (by decide))
def ktx (x y:Int):List UInt8:=Lib.itoa x++58::Lib.itoa y
theorem ktx_no32 (x y:Int):(32:UInt8)∉ktx x y:=by
 unfold ktx
 intro h
 rcases List.mem_append.1 h with h |h
 ·exact itoa_no32 _ h
 ·rcases List.mem_cons.1 h with h |h
  ·revert h;decide
  ·exact itoa_no32 _ h
def txL (X Y:Nat→Int):Nat→List UInt8
 |0=>[]
 |i+1=>(if 0<i then txL X Y i++[32] else txL X Y i)++ktx (X i) (Y i)
def kws (X Y:Nat→Int) (n:Nat):List (List UInt8):=(List.range n).map fun k=>ktx (X k) (Y k)
theorem kws_succ (X Y:Nat→Int) (n:Nat):kws X Y (n+1)=kws X Y n++[ktx (X n) (Y n)]:=by unfold kws;rw [List.range_succ,List.map_append];rfl
theorem kws_len (X Y:Nat→Int) (n:Nat):(kws X Y n).length=n:=by simp [kws]
theorem kws_get (X Y:Nat→Int) {n k:Nat} (h:k<n):(kws X Y n)[k]?=some (ktx (X k) (Y k)):=by simp [kws,h]
theorem wds_tx (X Y:Nat→Int):∀n,wds (txL X Y (n+1))=kws X Y (n+1)
 |0=>by
  show wds ((if 0<0 then _ else txL X Y 0)++ktx (X 0) (Y 0))=_
  rw [if_neg (by omega)]
  show wds ([]++ktx (X 0) (Y 0))=_
  rw [List.nil_append,wds_plain (ktx_no32 _ _)]
  rfl
 |n+1=>by
  show wds ((if 0<n+1 then txL X Y (n+1)++[32] else txL X Y (n+1))++ktx (X (n+1)) (Y (n+1)))=_
  rw [if_pos (by omega),List.append_assoc]
  show wds (txL X Y (n+1)++32::ktx (X (n+1)) (Y (n+1)))=_
  rw [wds_cut,wds_tx X Y n,wds_plain (ktx_no32 _ _),kws_succ X Y (n+1)]
def near (v:Int):Prop:= -1000000000000000000<v∧v<1000000000000000000
theorem itoa_inj {a b:Int} (ha:near a) (hb:near b) (h:Lib.itoa a=Lib.itoa b):a=b:=by
 have e1:=zM5 ha.1 ha.2
 have e2:=zM5 hb.1 hb.2
 rw [h,e2] at e1
 exact (Lib.NumEnd.ok.inj e1).symm
theorem cut58 {a b c d:List UInt8} (ha:(58:UInt8)∉a) (hc:(58:UInt8)∉c) (h:a++58::b=c++58::d):a=c∧b=d:=by
 induction a generalizing c with
 |nil=>
  cases c with
  |nil=>simp at h;exact ⟨rfl,h⟩
  |cons x c=>simp at h;exact absurd (by simp [h.1]) hc
 |cons x a ih=>
  cases c with
  |nil=>simp at h;exact absurd (by simp [h.1]) ha
  |cons y c=>
   simp at h
   obtain ⟨e1,e2⟩:=ih (fun g=>ha (by simp [g])) (fun g=>hc (by simp [g])) h.2
   exact ⟨by rw [h.1,e1],e2⟩
theorem ktx_inj {x y x' y':Int} (h1:near x) (h2:near y) (h3:near x') (h4:near y') (h:ktx x y=ktx x' y'):x=x'∧y=y':=by
 obtain ⟨e1,e2⟩:=cut58 (zU8 _) (zU8 _) h
 exact ⟨itoa_inj h1 h3 e1,itoa_inj h2 h4 e2⟩
theorem itoa_len {v:Int} (h:near v):(Lib.itoa v).length≤19:=by
 by_cases hv:v<0
 ·have:=h.1
  rw [zU9 hv,List.length_cons,Lib.decDigits_length]
  have:=zG3 18 v.natAbs (by decide) (by rw [pow18];omega)
  omega
 ·have:=h.2
  rw [zJ7 hv,Lib.decDigits_length]
  have:=zG3 18 v.toNat (by decide) (by rw [pow18];omega)
  omega
open Go.RowKit
def kc (L:List (Int×Int)):List Value:=L.flatMap fun p=>[.int .i64 p.1,.int .i64 p.2]
def kX (L:List (Int×Int)) (k:Nat):Int:=(L.getD k (0,0)).1
def kY (L:List (Int×Int)) (k:Nat):Int:=(L.getD k (0,0)).2
theorem kc_append (L M:List (Int×Int)):kc (L++M)=kc L++kc M:=by unfold kc;rw [List.flatMap_append]
theorem kc_len (L:List (Int×Int)):(kc L).length=L.length*2:=by
 induction L with
 |nil=>rfl
 |cons p L ih=>show (kc ([p]++L)).length=_;rw [kc_append,List.length_append,ih];simp [kc];omega
theorem kc_at (L:List (Int×Int)) (k:Nat) (h:k<L.length):(kc L)[k*2]?=some (.int .i64 (kX L k))∧(kc L)[k*2+1]?=some (.int .i64 (kY L k)):=by
 induction L generalizing k with
 |nil=>simp at h
 |cons p L ih=>
  cases k with
  |zero=>exact ⟨rfl,rfl⟩
  |succ k=>
   have:=ih k (by simp at h;omega)
   have e1:(k+1)*2=k*2+1+1:=by omega
   rw [e1]
   exact this
theorem tab_of_kc {w:World} {base g cap:Nat} {t:TypeId} {L:List (Int×Int)} (h:w.ownsRow base t 2 (.slice (some ⟨g,0,none⟩) L.length cap) L.length (kc L)):TabAt w g 0 L.length (kX L) (kY L):=by
 refine ⟨(h.lt g rfl).2,fun k hk=>?_⟩
 obtain ⟨h1,h2⟩:=kc_at L k hk
 rw [Nat.zero_add]
 exact ⟨(h.cellAt (k*2) (by omega)).trans h1,(h.cellAt (k*2+1) (by omega)).trans h2⟩
def NumIs (w:List UInt8) (v:Int):Prop:=Lib.atoiAll w= .ok v∧Lib.itoa v=w
theorem NumIs.uniq {w:List UInt8} {a b:Int} (h:NumIs w a) (h':NumIs w b):a=b:=by
 have e:=h.1
 rw [h'.1] at e
 exact (Lib.NumEnd.ok.inj e).symm
theorem NumIs.bd {w:List UInt8} {a:Int} (h:NumIs w a): -9223372036854775808≤a∧a≤9223372036854775807:=Lib.atoiAll_bounds h.1
def zF5 (v:Int):Prop:=Lib.atoiAll (Lib.itoa v)= .ok v
theorem zS1 {v:Int} (h:zF5 v):NumIs (Lib.itoa v) v:=⟨h,rfl⟩
theorem NumIs.ok {w:List UInt8} {v:Int} (h:NumIs w v):zF5 v:=by unfold zF5;rw [h.2];exact h.1
theorem zD3 {a b:Int} (ha:zF5 a) (hb:zF5 b) (h:Lib.itoa a=Lib.itoa b):a=b:=(zS1 ha).uniq (h ▸ zS1 hb)
theorem itoa_ne (v:Int):Lib.itoa v≠[]:=by
 intro e
 unfold Lib.itoa at e
 split at e
 ·simp at e
 ·have:=congrArg List.length e
  rw [Lib.decDigits_length] at this
  have h2:=Lib.lt_pow_nDigits v.toNat
  have h3:Lib.nDigits v.toNat=0:=by simpa using this
  rw [h3] at h2
  unfold Lib.nDigits at h3
  split at h3<;> omega
theorem NumIs.ne {w:List UInt8} {v:Int} (h:NumIs w v):w≠[]:=by rw [←h.2];exact itoa_ne v
structure Ndr where
 nm:ByteArray
 kd:Int
 ax:Int
 ay:Int
 iv:Int
 gd:Int
 T:List (Int×Int)
 pt:Bool
 rs:Int
structure Lkr where
 nm:ByteArray
 fr:ByteArray
 tn:ByteArray
 kd:Int
 ln:Int
 up:Int
 dn:Int
 sc:ByteArray
 wd:Int
 ht:Int
 T:List (Int×Int)
def tabT (T:List (Int×Int)):Prop:=TabOK T.length (kX T) (kY T)
def twd (T:List (Int×Int)):List (List UInt8):=kws (kX T) (kY T) T.length
def wdOK (b:ByteArray):Prop:=b.data.toList≠[]∧(32:UInt8)∉b.data.toList∧(10:UInt8)∉b.data.toList
def kManhole:List UInt8:=[109,97,110,104,111,108,101]
def kTank:List UInt8:=[116,97,110,107]
def kOutfall:List UInt8:=[111,117,116,102,97,108,108]
def kPipe:List UInt8:=[112,105,112,101]
def kWeir:List UInt8:=[119,101,105,114]
def kGate:List UInt8:=[103,97,116,101]
def kPump:List UInt8:=[112,117,109,112]
def ndW (x:Ndr):List (List UInt8):=
 x.nm.data.toList::Lib.itoa x.ax::Lib.itoa x.ay::Lib.itoa x.iv::Lib.itoa x.gd::
    (if x.kd=3 then [] else if x.kd=2 then (if x.pt then Lib.itoa x.rs else [45])::twd x.T else twd x.T)
def ndK (x:Ndr):List UInt8:=if x.kd=3 then kOutfall else if x.kd=2 then kTank else kManhole
structure formN (x:Ndr):Prop where
 nm:wdOK x.nm
 ax:zF5 x.ax
 ay:zF5 x.ay
 iv:zF5 x.iv
 gd:zF5 x.gd
 kd:(x.kd=1∧tabT x.T∧x.pt=false∧x.rs=0)∨(x.kd=2∧tabT x.T∧((x.pt=false∧x.rs=0)∨(x.pt=true∧zF5 x.rs)))∨(x.kd=3∧x.T=[]∧x.pt=false∧x.rs=0)
def lkW (x:Lkr):List (List UInt8):=
 x.nm.data.toList::x.fr.data.toList::x.tn.data.toList::
    (if x.kd=1 then [Lib.itoa x.ln,Lib.itoa x.up,Lib.itoa x.dn,x.sc.data.toList] else if x.kd=2 then [Lib.itoa x.up,Lib.itoa x.wd] else if x.kd=3 then [Lib.itoa x.up,Lib.itoa x.wd,Lib.itoa x.ht] else Lib.itoa x.up::Lib.itoa x.dn::twd x.T)
def lkK (x:Lkr):List UInt8:=if x.kd=1 then kPipe else if x.kd=2 then kWeir else if x.kd=3 then kGate else kPump
structure formL (x:Lkr):Prop where
 nm:wdOK x.nm
 fr:wdOK x.fr
 tn:wdOK x.tn
 up:zF5 x.up
 kd:(x.kd=1∧zF5 x.ln∧zF5 x.dn∧wdOK x.sc∧x.wd=0∧x.ht=0∧x.T=[])∨(x.kd=2∧x.ln=0∧x.dn=0∧x.sc=⟨#[]⟩∧zF5 x.wd∧x.ht=0∧x.T=[])∨
  (x.kd=3∧x.ln=0∧x.dn=0∧x.sc=⟨#[]⟩∧zF5 x.wd∧zF5 x.ht∧x.T=[])∨(x.kd=4∧x.ln=0∧zF5 x.dn∧x.sc=⟨#[]⟩∧x.wd=0∧x.ht=0∧tabT x.T)
def IsNd (l:List UInt8) (x:Ndr):Prop:=formN x∧wds l=ndK x::ndW x
def IsLk (l:List UInt8) (x:Lkr):Prop:=formL x∧wds l=lkK x::lkW x
theorem tabT_in {T:List (Int×Int)} (h:tabT T) (k:Nat) (hk:k<T.length):near (kX T k)∧near (kY T k):=by
 have:=h.2.2 k hk
 unfold zJ8 inB at this
 unfold near
 omega
theorem zX5 {T U:List (Int×Int)} (hl:T.length=U.length) (h:∀k,k<T.length→kX T k=kX U k∧kY T k=kY U k):T=U:=by
 apply List.ext_getElem hl
 intro k h1 h2
 have:=h k h1
 unfold kX kY at this
 simp only [List.getD,List.getElem?_eq_getElem h1,List.getElem?_eq_getElem h2,Option.getD_some] at this
 exact Prod.ext this.1 this.2
theorem zY2 {T U:List (Int×Int)} (hT:tabT T) (hU:tabT U) (h:twd T=twd U):T=U:=by
 have hl:T.length=U.length:=by
  have:=congrArg List.length h
  unfold twd at this
  rwa [kws_len,kws_len] at this
 refine zX5 hl fun k hk=>?_
 have e:=congrArg (fun (l:List (List UInt8))=>l[k]?) h
 unfold twd at e
 have hk':k<U.length:=by omega
 simp only [kws_get _ _ hk,kws_get _ _ hk',Option.some.injEq] at e
 have a:=tabT_in hT k hk
 have b:=tabT_in hU k hk'
 exact ktx_inj a.1 a.2 b.1 b.2 e
theorem zJ9 {a b:ByteArray} (h:a.data.toList=b.data.toList):a=b:=by
 obtain ⟨⟨x⟩⟩:=a;obtain ⟨⟨y⟩⟩:=b
 have:x=y:=h
 rw [this]
theorem dash_no {v:Int}:([45]:List UInt8)≠Lib.itoa v:=by
 intro e
 unfold Lib.itoa at e
 split at e
 ·simp only [List.cons.injEq] at e
  have:=congrArg List.length e.2
  rw [Lib.decDigits_length] at this
  have h2:=Lib.lt_pow_nDigits v.natAbs
  have h3:Lib.nDigits v.natAbs=0:=by simpa using this.symm
  rw [h3] at h2
  unfold Lib.nDigits at h3
  split at h3<;> omega
 ·have h1:(45:UInt8)∈Lib.decDigits v.toNat:=by rw [←e];simp
  have:=dec_byte _ _ h1
  revert this;decide
theorem IsNd.uniq {l:List UInt8} {x y:Ndr} (hx:IsNd l x) (hy:IsNd l y):x=y:=by
 obtain ⟨fx,ex⟩:=hx
 obtain ⟨fy,ey⟩:=hy
 rw [ex] at ey
 simp only [ndW,List.cons.injEq] at ey
 obtain ⟨e0,e1,e2,e3,e4,e5,e6⟩:=ey
 have a1:=zJ9 e1
 have a2:=zD3 fx.ax fy.ax e2
 have a3:=zD3 fx.ay fy.ay e3
 have a4:=zD3 fx.iv fy.iv e4
 have a5:=zD3 fx.gd fy.gd e5
 have kx:=fx.kd
 have ky:=fy.kd
 cases x;cases y
 simp only at*
 subst a1 a2 a3 a4 a5
 rcases kx with ⟨c1,c2,c3,c4⟩|⟨c1,c2,c3⟩|⟨c1,c2,c3,c4⟩<;> rcases ky with ⟨d1,d2,d3,d4⟩|⟨d1,d2,d3⟩|⟨d1,d2,d3,d4⟩<;> subst c1<;> subst d1<;> simp only [ndK] at e0<;> simp (config:={ decide:=true }) only [if_true,if_false] at e0 e6<;> (try (exact absurd e0 (by decide)))
 ·have:=zY2 c2 d2 e6
  subst this;subst c3 c4 d3 d4;rfl
 ·simp only [List.cons.injEq] at e6
  have:=zY2 c2 d2 e6.2
  subst this
  rcases c3 with ⟨p1,p2⟩|⟨p1,p2⟩<;> rcases d3 with ⟨q1,q2⟩|⟨q1,q2⟩<;> subst p1<;> subst q1<;> simp (config:={ decide:=true }) only [if_true,if_false] at e6
  ·subst p2 q2;rfl
  ·exact absurd e6.1 dash_no
  ·exact absurd e6.1.symm dash_no
  ·have:=zD3 p2 q2 e6.1
   subst this;rfl
 ·subst c2 d2 c3 d3 c4 d4;rfl
theorem IsLk.uniq {l:List UInt8} {x y:Lkr} (hx:IsLk l x) (hy:IsLk l y):x=y:=by
 obtain ⟨fx,ex⟩:=hx
 obtain ⟨fy,ey⟩:=hy
 rw [ex] at ey
 simp only [lkW,List.cons.injEq] at ey
 obtain ⟨e0,e1,e2,e3,e6⟩:=ey
 have a1:=zJ9 e1
 have a2:=zJ9 e2
 have a3:=zJ9 e3
 have ux:=fx.up
 have uy:=fy.up
 have kx:=fx.kd
 have ky:=fy.kd
 cases x;cases y
 simp only at*
 subst a1 a2 a3
 rcases kx with ⟨c1,c2,c3,c4,c5,c6,c7⟩|⟨c1,c2,c3,c4,c5,c6,c7⟩|⟨c1,c2,c3,c4,c5,c6,c7⟩|⟨c1,c2,c3,c4,c5,c6,c7⟩<;> rcases ky with ⟨d1,d2,d3,d4,d5,d6,d7⟩|⟨d1,d2,d3,d4,d5,d6,d7⟩|⟨d1,d2,d3,d4,d5,d6,d7⟩|⟨d1,d2,d3,d4,d5,d6,d7⟩<;> subst c1<;> subst d1<;> simp only [lkK] at e0<;> simp (config:={ decide:=true }) only [if_true,if_false,List.cons.injEq,and_true] at e0 e6<;> (try (exact absurd e0 (by decide)))
 ·obtain ⟨p1,p2,p3,p4⟩:=e6
  have b1:=zD3 c2 d2 p1
  have b2:=zD3 ux uy p2
  have b3:=zD3 c3 d3 p3
  have b4:=zJ9 p4
  subst b1 b2 b3 b4 c5 c6 c7 d5 d6 d7;rfl
 ·obtain ⟨p1,p2⟩:=e6
  have b1:=zD3 ux uy p1
  have b2:=zD3 c5 d5 p2
  subst b1 b2 c2 c3 c4 c6 c7 d2 d3 d4 d6 d7;rfl
 ·obtain ⟨p1,p2,p3⟩:=e6
  have b1:=zD3 ux uy p1
  have b2:=zD3 c5 d5 p2
  have b3:=zD3 c6 d6 p3
  subst b1 b2 b3 c2 c3 c4 c7 d2 d3 d4 d7;rfl
 ·obtain ⟨p1,p2,p3⟩:=e6
  have b1:=zD3 ux uy p1
  have b2:=zD3 c3 d3 p2
  have b3:=zY2 c7 d7 p3
  subst b1 b2 b3 c2 c4 c5 c6 d2 d4 d5 d6;rfl
theorem nd_not_lk {l:List UInt8} {x:Ndr} {y:Lkr} (hx:IsNd l x) (hy:IsLk l y):False:=by
 have e:=hx.2
 rw [hy.2] at e
 simp only [List.cons.injEq] at e
 have e0:=e.1
 have hl:∀z:Lkr,lkK z=kPipe∨lkK z=kWeir∨lkK z=kGate∨lkK z=kPump:=fun z=>by
  unfold lkK
  repeat' split
  all_goals simp
 have hn:∀z:Ndr,ndK z=kOutfall∨ndK z=kTank∨ndK z=kManhole:=fun z=>by
  unfold ndK
  repeat' split
  all_goals simp
 rcases hl y with h |h |h |h<;> rcases hn x with h' |h' |h'<;> rw [h,h'] at e0<;> exact absurd e0 (by decide)
def lm (W:List ByteArray):List (List UInt8):=W.map fun b=>b.data.toList
def WordR (W:List ByteArray) (o:Bool) (s:ByteArray) (W':List ByteArray) (o':Bool):Prop:=
 (W=s::W'∧s.data.toList≠[]∧o'=o)∨((∀h t,W=h::t→h.data.toList=[])∧W'=W∧o'=false)
def NumR (W:List ByteArray) (o:Bool) (v:Int) (W':List ByteArray) (o':Bool):Prop:=
 (∃h,W=h::W'∧NumIs h.data.toList v∧o'=o)∨((∀h t u,W=h::t→¬NumIs h.data.toList u)∧o'=false)
def TabR (W:List ByteArray) (o:Bool) (T:List (Int×Int)) (W':List ByteArray) (o':Bool):Prop:=
 W'=[]∧((tabT T∧lm W=twd T∧o'=o)∨((∀U,tabT U→lm W≠twd U)∧T=[]∧o'=false))
theorem WordR.ok {W W':List ByteArray} {o o':Bool} {s:ByteArray} (h:WordR W o s W' o') (ho:o'=true):o=true∧W=s::W'∧s.data.toList≠[]:=by
 rcases h with ⟨a,b,c⟩|⟨a,b,c⟩
 ·exact ⟨by rw [←c];exact ho,a,b⟩
 ·rw [c] at ho;cases ho
theorem NumR.ok {W W':List ByteArray} {o o':Bool} {v:Int} (h:NumR W o v W' o') (ho:o'=true):o=true∧∃h,W=h::W'∧NumIs h.data.toList v:=by
 rcases h with ⟨h,a,b,c⟩|⟨a,c⟩
 ·exact ⟨by rw [←c];exact ho,h,a,b⟩
 ·rw [c] at ho;cases ho
theorem TabR.ok {W W':List ByteArray} {o o':Bool} {T:List (Int×Int)} (h:TabR W o T W' o') (ho:o'=true):o=true∧tabT T∧lm W=twd T:=by
 rcases h.2 with ⟨a,b,c⟩|⟨a,b,c⟩
 ·exact ⟨by rw [←c];exact ho,a,b⟩
 ·rw [c] at ho;cases ho
theorem WordR.takes {W W':List ByteArray} {o o':Bool} {s:ByteArray} {a:List UInt8} {r:List (List UInt8)} (h:WordR W o s W' o') (e:lm W=a::r) (ha:a≠[]):o'=o∧lm W'=r∧s.data.toList=a:=by
 rcases h with ⟨h1,h2,h3⟩|⟨h1,h2,h3⟩
 ·subst h1
  simp only [lm,List.map_cons,List.cons.injEq] at e
  exact ⟨h3,e.2,e.1⟩
 ·cases W with
  |nil=>simp [lm] at e
  |cons x t=>
   simp only [lm,List.map_cons,List.cons.injEq] at e
   have:=h1 x t rfl
   rw [e.1] at this
   exact absurd this ha
theorem NumR.takes {W W':List ByteArray} {o o':Bool} {v u:Int} {r:List (List UInt8)} (h:NumR W o v W' o') (e:lm W=Lib.itoa u::r) (hu:zF5 u):o'=o∧lm W'=r∧v=u:=by
 rcases h with ⟨x,h1,h2,h3⟩|⟨h1,h3⟩
 ·subst h1
  simp only [lm,List.map_cons,List.cons.injEq] at e
  refine ⟨h3,e.2,h2.uniq ?_⟩
  rw [e.1];exact zS1 hu
 ·cases W with
  |nil=>simp [lm] at e
  |cons x t=>
   simp only [lm,List.map_cons,List.cons.injEq] at e
   exact absurd (by rw [e.1];exact zS1 hu) (h1 x t u rfl)
theorem TabR.takes {W W':List ByteArray} {o o':Bool} {T U:List (Int×Int)} (h:TabR W o T W' o') (e:lm W=twd U) (hU:tabT U):o'=o∧W'=[]∧T=U:=by
 rcases h.2 with ⟨h1,h2,h3⟩|⟨h1,h2,h3⟩
 ·exact ⟨h3,h.1,zY2 h1 hU (by rw [←h2,e])⟩
 ·exact absurd e (h1 U hU)
def NodeR (kd:Int) (W:List ByteArray) (o:Bool) (x:Ndr) (W':List ByteArray) (o':Bool):Prop:=
 ∃(W1 W2 W3 W4 W5:List ByteArray) (o1 o2 o3 o4 o5:Bool),WordR W o x.nm W1 o1∧NumR W1 o1 x.ax W2 o2∧NumR W2 o2 x.ay W3 o3∧NumR W3 o3 x.iv W4 o4∧NumR W4 o4 x.gd W5 o5∧x.kd=kd∧
  ((kd=1∧TabR W5 o5 x.T W' o'∧x.pt=false∧x.rs=0)∨
   (kd=2∧((∃W6,W5=⟨#[45]⟩::W6∧TabR W6 o5 x.T W' o'∧x.pt=false∧x.rs=0)∨((∀t,W5≠⟨#[45]⟩::t)∧∃W6 o6,NumR W5 o5 x.rs W6 o6∧TabR W6 o6 x.T W' o'∧x.pt=true)))∨
   (kd=3∧W'=W5∧o'=o5∧x.T=[]∧x.pt=false∧x.rs=0))
theorem zJ0 (h:ByteArray) (t:List ByteArray):lm (h::t)=h.data.toList::lm t:=rfl
theorem zE0 {h:ByteArray} {v:Int} (hn:NumIs h.data.toList v):h.data.toList=Lib.itoa v:=hn.2.symm
theorem NodeR.good {kd:Int} {W W':List ByteArray} {o o':Bool} {x:Ndr} {l:List UInt8} (h:NodeR kd W o x W' o') (hl:wds l=ndK x::lm W) (hw:∀b,b∈W→(32:UInt8)∉b.data.toList∧(10:UInt8)∉b.data.toList) (ho:o'=true) (hW:W'=[]):o=true∧IsNd l x:=by
 obtain ⟨W1,W2,W3,W4,W5,o1,o2,o3,o4,o5,r1,r2,r3,r4,r5,hk,rest⟩:=h
 have key:o5=true∧lm W5=(if x.kd=3 then [] else if x.kd=2 then (if x.pt then Lib.itoa x.rs else [45])::twd x.T else twd x.T)∧((x.kd=1∧tabT x.T∧x.pt=false∧x.rs=0)∨(x.kd=2∧tabT x.T∧((x.pt=false∧x.rs=0)∨(x.pt=true∧zF5 x.rs)))∨(x.kd=3∧x.T=[]∧x.pt=false∧x.rs=0)):=by
  rcases rest with ⟨a,b,c,d⟩|⟨a,⟨W6,b,c,d,e⟩|⟨b,W6,o6,c,d,e⟩⟩|⟨a,b,c,d,e,f⟩
  ·obtain ⟨t1,t2,t3⟩:=b.ok ho
   rw [hk,a,if_neg (by decide),if_neg (by decide)]
   exact ⟨t1,t3,.inl ⟨rfl,t2,c,d⟩⟩
  ·obtain ⟨t1,t2,t3⟩:=c.ok ho
   rw [hk,a,if_neg (by decide),if_pos rfl,d]
   refine ⟨t1,?_,.inr (.inl ⟨rfl,t2,.inl ⟨rfl,e⟩⟩)⟩
   rw [b,zJ0,t3];rfl
  ·obtain ⟨t1,t2,t3⟩:=d.ok ho
   obtain ⟨t4,h6,t5,t6⟩:=c.ok t1
   rw [hk,a,if_neg (by decide),if_pos rfl,e]
   refine ⟨t4,?_,.inr (.inl ⟨rfl,t2,.inr ⟨rfl,t6.ok⟩⟩)⟩
   rw [t5,zJ0,t3,zE0 t6];rfl
  ·rw [hk,a,if_pos rfl]
   refine ⟨by rw [←c];exact ho,?_,.inr (.inr ⟨rfl,d,e,f⟩)⟩
   rw [←b,hW];rfl
 obtain ⟨k1,k2,k3⟩:=key
 obtain ⟨a5,h5,e5,n5⟩:=r5.ok k1
 obtain ⟨a4,h4,e4,n4⟩:=r4.ok a5
 obtain ⟨a3,h3,e3,n3⟩:=r3.ok a4
 obtain ⟨a2,h2,e2,n2⟩:=r2.ok a3
 obtain ⟨a1,e1,n1⟩:=r1.ok a2
 refine ⟨a1,⟨⟨n1,(hw x.nm (by rw [e1];simp)).1,(hw x.nm (by rw [e1];simp)).2⟩,n2.ok,n3.ok,n4.ok,n5.ok,k3⟩,?_⟩
 rw [hl,e1,e2,e3,e4,e5]
 simp only [zJ0,ndW,zE0 n2,zE0 n3,zE0 n4,zE0 n5,k2]
theorem NodeR.bad {kd:Int} {W W':List ByteArray} {o o':Bool} {x y:Ndr} {l:List UInt8} (h:NodeR kd W o x W' o') (hl:wds l=ndK x::lm W) (hy:IsNd l y):o'=o∧W'=[]:=by
 obtain ⟨W1,W2,W3,W4,W5,o1,o2,o3,o4,o5,r1,r2,r3,r4,r5,hk,rest⟩:=h
 obtain ⟨fy,ey⟩:=hy
 rw [hl] at ey
 simp only [List.cons.injEq] at ey
 obtain ⟨e0,e⟩:=ey
 unfold ndW at e
 obtain ⟨a1,e,_⟩:=r1.takes e fy.nm.1
 obtain ⟨a2,e,_⟩:=r2.takes e fy.ax
 obtain ⟨a3,e,_⟩:=r3.takes e fy.ay
 obtain ⟨a4,e,_⟩:=r4.takes e fy.iv
 obtain ⟨a5,e,_⟩:=r5.takes e fy.gd
 have ho:o5=o:=by rw [a5,a4,a3,a2,a1]
 have hkd:x.kd=y.kd:=by
  have hx:x.kd=1∨x.kd=2∨x.kd=3:=by
   rw [hk]
   rcases rest with ⟨a,_⟩|⟨a,_⟩|⟨a,_⟩<;> simp [a]
  have hy:y.kd=1∨y.kd=2∨y.kd=3:=by
   rcases fy.kd with ⟨a,_⟩|⟨a,_⟩|⟨a,_⟩<;> simp [a]
  unfold ndK at e0
  rcases hx with a |a |a<;> rcases hy with b |b |b<;> rw [a,b] at e0⊢<;> simp (config:={ decide:=true }) only [if_true,if_false] at e0<;> exact absurd e0 (by decide)
 rw [←hkd,hk] at e
 have fk:=fy.kd
 rw [←hkd,hk] at fk
 rcases rest with ⟨a,b,c,d⟩|⟨a,⟨W6,b,c,d,f⟩|⟨b,W6,o6,c,d,f⟩⟩|⟨a,b,c,d,f,g⟩
 ·subst a
  simp (config:={ decide:=true }) only [if_true,if_false] at e
  have hT:tabT y.T:=by rcases fk with ⟨_,q,_⟩|⟨p,_⟩|⟨p,_⟩<;> first |exact q |exact absurd p (by decide)
  obtain ⟨t1,t2,_⟩:=b.takes e hT
  exact ⟨by rw [t1,ho],t2⟩
 ·subst a
  simp (config:={ decide:=true }) only [if_true,if_false] at e
  have hT:tabT y.T∧((y.pt=false∧y.rs=0)∨(y.pt=true∧zF5 y.rs)):=by rcases fk with ⟨p,_⟩|⟨_,q⟩|⟨p,_⟩<;> first |exact q |exact absurd p (by decide)
  rw [b,zJ0] at e
  simp only [List.cons.injEq] at e
  obtain ⟨t1,t2,_⟩:=c.takes e.2 hT.1
  exact ⟨by rw [t1,ho],t2⟩
 ·subst a
  simp (config:={ decide:=true }) only [if_true,if_false] at e
  have hT:tabT y.T∧((y.pt=false∧y.rs=0)∨(y.pt=true∧zF5 y.rs)):=by rcases fk with ⟨p,_⟩|⟨_,q⟩|⟨p,_⟩<;> first |exact q |exact absurd p (by decide)
  rcases hT.2 with ⟨p,_⟩|⟨p,q⟩
  ·rw [p] at e
   cases W5 with
   |nil=>simp [lm] at e
   |cons h5 t5=>
    rw [zJ0] at e
    simp only [List.cons.injEq,Bool.false_eq_true,if_false] at e
    exact absurd (by rw [zJ9 (b:=⟨#[45]⟩) e.1]) (b t5)
  ·rw [p] at e
   simp only [if_true] at e
   obtain ⟨s1,s2,_⟩:=c.takes e q
   obtain ⟨t1,t2,_⟩:=d.takes s2 hT.1
   exact ⟨by rw [t1,s1,ho],t2⟩
 ·subst a
  simp only [if_true] at e
  refine ⟨by rw [c,ho],?_⟩
  rw [b]
  cases W5 with
  |nil=>rfl
  |cons h5 t5=>simp [lm] at e
def LinkR (kd:Int) (W:List ByteArray) (o:Bool) (x:Lkr) (W':List ByteArray) (o':Bool):Prop:=
 ∃(W1 W2 W3:List ByteArray) (o1 o2 o3:Bool),WordR W o x.nm W1 o1∧WordR W1 o1 x.fr W2 o2∧WordR W2 o2 x.tn W3 o3∧x.kd=kd∧
  ((kd=1∧∃W4 W5 W6 o4 o5 o6,NumR W3 o3 x.ln W4 o4∧NumR W4 o4 x.up W5 o5∧NumR W5 o5 x.dn W6 o6∧WordR W6 o6 x.sc W' o'∧x.wd=0∧x.ht=0∧x.T=[])∨
   (kd=2∧∃W4 o4,NumR W3 o3 x.up W4 o4∧NumR W4 o4 x.wd W' o'∧x.ln=0∧x.dn=0∧x.sc=⟨#[]⟩∧x.ht=0∧x.T=[])∨
   (kd=3∧∃W4 W5 o4 o5,NumR W3 o3 x.up W4 o4∧NumR W4 o4 x.wd W5 o5∧NumR W5 o5 x.ht W' o'∧x.ln=0∧x.dn=0∧x.sc=⟨#[]⟩∧x.T=[])∨
   (kd=4∧∃W4 W5 o4 o5,NumR W3 o3 x.up W4 o4∧NumR W4 o4 x.dn W5 o5∧TabR W5 o5 x.T W' o'∧x.ln=0∧x.sc=⟨#[]⟩∧x.wd=0∧x.ht=0))
theorem lm_nil:lm []=[]:=rfl
theorem lm_none {W:List ByteArray} (h:lm W=[]):W=[]:=by
 cases W with
 |nil=>rfl
 |cons a t=>simp [lm] at h
theorem LinkR.good {kd:Int} {W W':List ByteArray} {o o':Bool} {x:Lkr} {l:List UInt8} (h:LinkR kd W o x W' o') (hl:wds l=lkK x::lm W) (hw:∀b,b∈W→(32:UInt8)∉b.data.toList∧(10:UInt8)∉b.data.toList) (ho:o'=true) (hW:W'=[]):o=true∧IsLk l x:=by
 obtain ⟨W1,W2,W3,o1,o2,o3,r1,r2,r3,hk,rest⟩:=h
 have key:(o3=true∧zF5 x.up)∧(lm W3=(if x.kd=1 then [Lib.itoa x.ln,Lib.itoa x.up,Lib.itoa x.dn,x.sc.data.toList] else if x.kd=2 then [Lib.itoa x.up,Lib.itoa x.wd] else if x.kd=3 then [Lib.itoa x.up,Lib.itoa x.wd,Lib.itoa x.ht] else Lib.itoa x.up::Lib.itoa x.dn::twd x.T))∧
  (((∀b,b∈W3→(32:UInt8)∉b.data.toList∧(10:UInt8)∉b.data.toList)→(x.kd=1∧zF5 x.ln∧zF5 x.dn∧wdOK x.sc∧x.wd=0∧x.ht=0∧x.T=[])∨(x.kd=2∧x.ln=0∧x.dn=0∧x.sc=⟨#[]⟩∧zF5 x.wd∧x.ht=0∧x.T=[])∨
  (x.kd=3∧x.ln=0∧x.dn=0∧x.sc=⟨#[]⟩∧zF5 x.wd∧zF5 x.ht∧x.T=[])∨(x.kd=4∧x.ln=0∧zF5 x.dn∧x.sc=⟨#[]⟩∧x.wd=0∧x.ht=0∧tabT x.T))):=by
  rcases rest with ⟨a,W4,W5,W6,o4,o5,o6,b,c,d,e,f,g,i⟩|⟨a,W4,o4,b,c,d,e,f,g,i⟩|⟨a,W4,W5,o4,o5,b,c,d,e,f,g,i⟩|⟨a,W4,W5,o4,o5,b,c,d,e,f,g,i⟩
  ·obtain ⟨t1,t2,t3⟩:=e.ok ho
   obtain ⟨t4,h4,t5,t6⟩:=d.ok t1
   obtain ⟨t7,h7,t8,t9⟩:=c.ok t4
   obtain ⟨u1,h1,u2,u3⟩:=b.ok t7
   refine ⟨⟨u1,t9.ok⟩,?_,fun hw3=>.inl ⟨by rw [hk,a],u3.ok,t6.ok,⟨t3,(hw3 x.sc (by rw [u2,t8,t5,t2];simp)).1,(hw3 x.sc (by rw [u2,t8,t5,t2];simp)).2⟩,f,g,i⟩⟩
   rw [hk,a,if_pos rfl,u2,t8,t5,t2,hW]
   simp only [zJ0,zE0 u3,zE0 t9,zE0 t6,lm_nil]
  ·obtain ⟨t4,h4,t5,t6⟩:=c.ok ho
   obtain ⟨t7,h7,t8,t9⟩:=b.ok t4
   refine ⟨⟨t7,t9.ok⟩,?_,fun hw3=>.inr (.inl ⟨by rw [hk,a],d,e,f,t6.ok,g,i⟩)⟩
   rw [hk,a,if_neg (by decide),if_pos rfl,t8,t5,hW]
   simp only [zJ0,zE0 t9,zE0 t6,lm_nil]
  ·obtain ⟨t4,h4,t5,t6⟩:=d.ok ho
   obtain ⟨t7,h7,t8,t9⟩:=c.ok t4
   obtain ⟨u1,h1,u2,u3⟩:=b.ok t7
   refine ⟨⟨u1,u3.ok⟩,?_,fun hw3=>.inr (.inr (.inl ⟨by rw [hk,a],e,f,g,t9.ok,t6.ok,i⟩))⟩
   rw [hk,a,if_neg (by decide),if_neg (by decide),if_pos rfl,u2,t8,t5,hW]
   simp only [zJ0,zE0 u3,zE0 t9,zE0 t6,lm_nil]
  ·obtain ⟨t1,t2,t3⟩:=d.ok ho
   obtain ⟨t7,h7,t8,t9⟩:=c.ok t1
   obtain ⟨u1,h1,u2,u3⟩:=b.ok t7
   refine ⟨⟨u1,u3.ok⟩,?_,fun hw3=>.inr (.inr (.inr ⟨by rw [hk,a],e,t9.ok,f,g,i,t2⟩))⟩
   rw [hk,a,if_neg (by decide),if_neg (by decide),if_neg (by decide),u2,t8]
   simp only [zJ0,zE0 u3,zE0 t9,t3]
 obtain ⟨⟨k1,k1'⟩,k2,k3⟩:=key
 obtain ⟨a3,e3,n3⟩:=r3.ok k1
 obtain ⟨a2,e2,n2⟩:=r2.ok a3
 obtain ⟨a1,e1,n1⟩:=r1.ok a2
 have hm1:x.nm∈W:=by rw [e1];simp
 have hm2:x.fr∈W:=by rw [e1,e2];simp
 have hm3:x.tn∈W:=by rw [e1,e2,e3];simp
 refine ⟨a1,⟨⟨n1,(hw _ hm1).1,(hw _ hm1).2⟩,⟨n2,(hw _ hm2).1,(hw _ hm2).2⟩,⟨n3,(hw _ hm3).1,(hw _ hm3).2⟩,k1',k3 fun b hb=>hw b (by rw [e1,e2,e3];simp [hb])⟩,?_⟩
 rw [hl,e1,e2,e3]
 simp only [zJ0,lkW,k2]
theorem LinkR.bad {kd:Int} {W W':List ByteArray} {o o':Bool} {x y:Lkr} {l:List UInt8} (h:LinkR kd W o x W' o') (hl:wds l=lkK x::lm W) (hy:IsLk l y):o'=o∧W'=[]:=by
 obtain ⟨W1,W2,W3,o1,o2,o3,r1,r2,r3,hk,rest⟩:=h
 obtain ⟨fy,ey⟩:=hy
 rw [hl] at ey
 simp only [List.cons.injEq] at ey
 obtain ⟨e0,e⟩:=ey
 unfold lkW at e
 obtain ⟨a1,e,_⟩:=r1.takes e fy.nm.1
 obtain ⟨a2,e,_⟩:=r2.takes e fy.fr.1
 obtain ⟨a3,e,_⟩:=r3.takes e fy.tn.1
 have ho:o3=o:=by rw [a3,a2,a1]
 have hkd:x.kd=y.kd:=by
  have hx:x.kd=1∨x.kd=2∨x.kd=3∨x.kd=4:=by
   rw [hk]
   rcases rest with ⟨a,_⟩|⟨a,_⟩|⟨a,_⟩|⟨a,_⟩<;> simp [a]
  have hy:y.kd=1∨y.kd=2∨y.kd=3∨y.kd=4:=by
   rcases fy.kd with ⟨a,_⟩|⟨a,_⟩|⟨a,_⟩|⟨a,_⟩<;> simp [a]
  unfold lkK at e0
  rcases hx with a |a |a |a<;> rcases hy with b |b |b |b<;> rw [a,b] at e0⊢<;> simp (config:={ decide:=true }) only [if_true,if_false] at e0<;> exact absurd e0 (by decide)
 rw [←hkd,hk] at e
 have fk:=fy.kd
 rw [←hkd,hk] at fk
 have fu:=fy.up
 rcases rest with ⟨a,W4,W5,W6,o4,o5,o6,b,c,d,f,_⟩|⟨a,W4,o4,b,c,_⟩|⟨a,W4,W5,o4,o5,b,c,d,_⟩|⟨a,W4,W5,o4,o5,b,c,d,_⟩
 ·subst a
  simp (config:={ decide:=true }) only [if_true,if_false,false_and,or_false,true_and] at e fk
  obtain ⟨q1,q2,q3,_⟩:=fk
  obtain ⟨s1,e,_⟩:=b.takes e q1
  obtain ⟨s2,e,_⟩:=c.takes e fu
  obtain ⟨s3,e,_⟩:=d.takes e q2
  obtain ⟨s4,e,_⟩:=f.takes e q3.1
  exact ⟨by rw [s4,s3,s2,s1,ho],lm_none e⟩
 ·subst a
  simp (config:={ decide:=true }) only [if_true,if_false,false_and,or_false,false_or,true_and] at e fk
  obtain ⟨_,_,_,q1,_⟩:=fk
  obtain ⟨s1,e,_⟩:=b.takes e fu
  obtain ⟨s2,e,_⟩:=c.takes e q1
  exact ⟨by rw [s2,s1,ho],lm_none e⟩
 ·subst a
  simp (config:={ decide:=true }) only [if_true,if_false,false_and,or_false,false_or,true_and] at e fk
  obtain ⟨_,_,_,q1,q2,_⟩:=fk
  obtain ⟨s1,e,_⟩:=b.takes e fu
  obtain ⟨s2,e,_⟩:=c.takes e q1
  obtain ⟨s3,e,_⟩:=d.takes e q2
  exact ⟨by rw [s3,s2,s1,ho],lm_none e⟩
 ·subst a
  simp (config:={ decide:=true }) only [if_true,if_false,false_and,or_false,false_or,true_and] at e fk
  obtain ⟨_,q1,_,_,_,q2⟩:=fk
  obtain ⟨s1,e,_⟩:=b.takes e fu
  obtain ⟨s2,e,_⟩:=c.takes e q1
  obtain ⟨s3,s4,_⟩:=d.takes e q2
  exact ⟨by rw [s3,s2,s1,ho],s4⟩
def Stp (N:List Ndr) (L:List Lkr) (x:List UInt8) (N':List Ndr) (L':List Lkr):Prop:=
 (∃l z,x=l++[10]∧IsNd l z∧L=[]∧N'=N++[z]∧L'=[])∨(∃l y,x=l++[10]∧IsLk l y∧N'=N∧L'=L++[y])
theorem Stp.det {N N1 N2:List Ndr} {L L1 L2:List Lkr} {x:List UInt8} (h:Stp N L x N1 L1) (h':Stp N L x N2 L2):N1=N2∧L1=L2:=by
 rcases h with ⟨l,z,a,b,c,d,e⟩|⟨l,y,a,b,c,d⟩<;> rcases h' with ⟨l',z',a',b',c',d',e'⟩|⟨l',y',a',b',c',d'⟩<;> rw [a] at a'<;> have hl:=List.append_cancel_right a'<;> subst hl
 ·rw [b.uniq b'] at d
  exact ⟨by rw [d,d'],by rw [e,e']⟩
 ·exact (nd_not_lk b b').elim
 ·exact (nd_not_lk b' b).elim
 ·rw [b.uniq b'] at d
  exact ⟨by rw [c,c'],by rw [d,d']⟩
inductive Runs:List Ndr→List Lkr→List (List UInt8)→List Ndr→List Lkr→Prop
 |nil (N L):Runs N L [] N L
 |cons {N L x N1 L1 r N2 L2}:Stp N L x N1 L1→Runs N1 L1 r N2 L2→Runs N L (x::r) N2 L2
theorem Runs.snoc {N:List Ndr} {L:List Lkr} {r:List (List UInt8)} {N1 L1 x N2 L2} (h:Runs N L r N1 L1) (hs:Stp N1 L1 x N2 L2):Runs N L (r++[x]) N2 L2:=by
 induction h with
 |nil=>exact .cons hs (.nil _ _)
 |cons h1 _ ih=>exact .cons h1 (ih hs)
theorem Runs.det {N:List Ndr} {L:List Lkr} {r:List (List UInt8)} {N1 L1 N2 L2} (h:Runs N L r N1 L1) (h':Runs N L r N2 L2):N1=N2∧L1=L2:=by
 induction h with
 |nil=>cases h';exact ⟨rfl,rfl⟩
 |cons h1 _ ih=>
  cases h' with
  |cons h2 h3=>
   obtain ⟨rfl,rfl⟩:=h1.det h2
   exact ih h3
def Stuck (N:List Ndr) (L:List Lkr) (x:List UInt8):Prop:=∀N' L',¬Stp N L x N' L'
theorem Runs.stop {N:List Ndr} {L:List Lkr} {r r' q:List (List UInt8)} {x:List UInt8} {N1 L1 N2 L2} (h:Runs N L r N1 L1) (hs:Stuck N1 L1 x) (e:r'=r++x::q) (h':Runs N L r' N2 L2):False:=by
 induction h generalizing r' with
 |nil=>
  subst e
  cases h' with
  |cons h2 _=>exact hs _ _ h2
 |cons h1 _ ih=>
  subst e
  cases h' with
  |cons h2 h3=>
   obtain ⟨rfl,rfl⟩:=h1.det h2
   exact ih hs rfl h3
theorem Runs.first {N:List Ndr} {L:List Lkr} {r r' q q':List (List UInt8)} {x x':List UInt8} {N1 L1 N2 L2} (h:Runs N L r N1 L1) (hs:Stuck N1 L1 x) (h':Runs N L r' N2 L2) (hs':Stuck N2 L2 x') (e:r++x::q=r'++x'::q'):r.length=r'.length:=by
 induction h generalizing r' with
 |nil=>
  cases h' with
  |nil=>rfl
  |cons h2 _=>
   simp only [List.nil_append,List.cons_append,List.cons.injEq] at e
   rw [←e.1] at h2
   exact (hs _ _ h2).elim
 |cons h1 _ ih=>
  cases h' with
  |nil=>
   simp only [List.nil_append,List.cons_append,List.cons.injEq] at e
   rw [e.1] at h1
   exact (hs' _ _ h1).elim
  |cons h2 h3=>
   simp only [List.cons_append,List.cons.injEq] at e
   rw [←e.1] at h2
   obtain ⟨rfl,rfl⟩:=h1.det h2
   have:=ih hs h3 e.2
   simp [this]
def rln:List UInt8→List (List UInt8)
 |[]=>[]
 |c::r=>if c=10 then [10]::rln r else (match rln r with |[]=>[[c]]|h::t=>(c::h)::t)
inductive NtIs (V:List Ndr→List Lkr→Prop) (s:List UInt8):List Ndr→List Lkr→Nat→Int→Prop
 |full:262144<s.length→NtIs V s [] [] 0 4
 |form (N L ls x r k):s.length≤262144→Runs [] [] ls N L→rln s=ls++x::r→Stuck N L x→k=ls.length+1→NtIs V s [] [] k 7
 |arg (N L):s.length≤262144→Runs [] [] (rln s) N L→¬V N L→NtIs V s [] [] 0 1
 |ok (N L):s.length≤262144→Runs [] [] (rln s) N L→V N L→NtIs V s N L 0 0
theorem NtIs.uniq {V:List Ndr→List Lkr→Prop} {s:List UInt8} {N N':List Ndr} {L L':List Lkr} {k k':Nat} {e e':Int} (h:NtIs V s N L k e) (h':NtIs V s N' L' k' e'):N=N'∧L=L'∧k=k'∧e=e':=by
 cases h with
 |full a=>cases h'<;> first |exact ⟨rfl,rfl,rfl,rfl⟩|omega
 |form N1 L1 ls x r k a b c d f=>
  cases h' with
  |full=>omega
  |form N2 L2 ls' x' r' k' a' b' c' d' f'=>
   have:=b.first d b' d' (by rw [←c,←c'])
   exact ⟨rfl,rfl,by omega,rfl⟩
  |arg N2 L2 a' b'=>exact (b.stop d c b').elim
  |ok _ _ a' b'=>exact (b.stop d c b').elim
 |arg N1 L1 a b c=>
  cases h' with
  |full=>omega
  |form N2 L2 ls' x' r' k' a' b' c' d' f'=>exact (b'.stop d' c' b).elim
  |arg N2 L2 a' b'=>exact ⟨rfl,rfl,rfl,rfl⟩
  |ok _ _ a' b' c'=>
   obtain ⟨rfl,rfl⟩:=b.det b'
   exact absurd c' c
 |ok _ _ a b c=>
  cases h' with
  |full=>omega
  |form N2 L2 ls' x' r' k' a' b' c' d' f'=>exact (b'.stop d' c' b).elim
  |arg N2 L2 a' b' c'=>
   obtain ⟨rfl,rfl⟩:=b.det b'
   exact absurd c c'
  |ok _ _ a' b'=>
   obtain ⟨rfl,rfl⟩:=b.det b'
   exact ⟨rfl,rfl,rfl,rfl⟩
theorem info39:(Tryz.prog.info? 141).map (fun i=>(i.zero,i.size,i.bytes))=some (some (.agg #[.int .i64 0,.int .i64 0]),2,16):=by kernel_rfl
def tl (n:Nat) (X Y:Nat→Int):List (Int×Int):=(List.range n).map fun k=>(X k,Y k)
theorem tl_succ (n:Nat) (X Y:Nat→Int):tl (n+1) X Y=tl n X Y++[(X n,Y n)]:=by unfold tl;rw [List.range_succ,List.map_append];rfl
end Go.Proofs.YtchakniaoeodmaaGreatDoor

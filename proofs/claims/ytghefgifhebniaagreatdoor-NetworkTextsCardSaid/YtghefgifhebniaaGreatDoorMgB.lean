/- Merged texts of these proofs: NmP, CtP, RpQ. -/
import Derived.Test.YtghefgifhebniaaGreatDoorMgH
import Derived.Test.YtghefgifhebniaaGreatDoorNumeral
import Derived.Test.YtghefgifhebniaaGreatDoorMgV
import Derived.Test.YtghefgifhebniaaGreatDoorMgJ
namespace Go.Proofs.YtghefgifhebniaaGreatDoor
open Go
set_option linter.unusedVariables false
set_option linter.unusedSimpArgs false
theorem parse_dec64:∀u:Nat,u≤9223372036854775808→Lib.parseUint10 0 (Lib.decDigits u)= .ok u:=by
 intro u
 induction u using Nat.strongRecOn with
 |_ u ih=>
  intro h
  by_cases hu:u<10
  ·rw [Lib.decDigits_one hu]
   simp only [Lib.parseUint10,zC7 hu]
   rw [if_pos (by omega),if_neg (by omega),if_neg (by omega)]
   congr 1
   omega
  ·rw [Lib.decDigits,dif_neg hu,parse_snoc _ _ 0 (u / 10) (ih (u / 10) (by omega) (by omega)) (by rw [zC7 (by omega)];omega) (by rw [zC7 (by omega)];omega) (by omega),zC7 (by omega)]
   congr 1
   omega
theorem mag64 {u:Nat} (h:u≤9223372036854775808):Lib.parseMag (Lib.decDigits u)= .ok u:=by
 unfold Lib.parseMag
 obtain ⟨c,r,e,_,_⟩:=zI2 (u:=u)
 rw [if_neg (by rw [e];simp),parse_dec64 u h]
theorem atoi64 {v:Int} (h1: -9223372036854775808≤v) (h2:v≤9223372036854775807):Lib.atoiAll (Lib.itoa v)= .ok v:=by
 by_cases hv:v<0
 ·rw [zG0 hv,Lib.atoiAll_minus,mag64 (by omega)]
  unfold Lib.signed
  simp only
  rw [if_neg (by omega)]
  congr 1
  omega
 ·rw [zE7 hv]
  obtain ⟨c,r,e,hc1,hc2⟩:=zI2 (u:=v.toNat)
  have hm:=mag64 (u:=v.toNat) (by omega)
  rw [e] at hm⊢
  rw [Lib.atoiAll_plain c r (by omega) (by omega),hm]
  unfold Lib.signless
  simp only
  rw [if_neg (by omega)]
  congr 1
  omega
theorem num64 {v:Int} {l:List UInt8} (h1: -9223372036854775808≤v) (h2:v≤9223372036854775807) (e:Lib.itoa v=l):NumIs l v:=⟨by rw [←e];exact atoi64 h1 h2,e⟩
def dval:List UInt8→Nat→Nat
 |[],n=>n
 |c::r,n=>dval r (10*n+(c.toNat - 48))
theorem dval_app (a:List UInt8):∀(b:List UInt8) (n:Nat),dval (a++b) n=dval b (dval a n):=by
 induction a with
 |nil=>intro b n;rfl
 |cons c a ih=>intro b n;exact ih b _
theorem dval_mono:∀(l:List UInt8) (n:Nat),n≤dval l n
 |[],n=>nl _
 |c::r,n=>by
  have:=dval_mono r (10*n+(c.toNat - 48))
  show n≤dval r _
  omega
theorem dval_dec:∀u:Nat,dval (Lib.decDigits u) 0=u:=by
 intro u
 induction u using Nat.strongRecOn with
 |_ u ih=>
  by_cases hu:u<10
  ·rw [Lib.decDigits_one hu]
   simp only [dval,zC7 hu]
   omega
  ·rw [Lib.decDigits,dif_neg hu,dval_app,ih (u / 10) (by omega)]
   simp only [dval]
   rw [zC7 (by omega:u % 10<10)]
   omega
def stOf (l:List UInt8):Nat:=if l.head?=some 45 then 1 else 0
theorem zJ5 {l:List UInt8} {v:Int} (h:NumIs l v):l.drop (stOf l)=Lib.decDigits v.natAbs∧v.natAbs≤9223372036854775808∧(v<0↔l.head?=some 45)∧(0≤v→v.natAbs<9223372036854775808):=by
 have hb:=h.bd
 have e:=h.2
 by_cases hv:v<0
 ·rw [zG0 hv] at e
  subst e
  refine ⟨rfl,by omega,⟨fun _=>rfl,fun _=>hv⟩,fun h0=>by omega⟩
 ·rw [zE7 hv] at e
  subst e
  have hn:=dec_nohead v.toNat
  have:v.toNat=v.natAbs:=by omega
  refine ⟨?_,by omega,⟨fun h0=>absurd h0 hv,fun h0=>absurd h0 hn⟩,fun _=>by omega⟩
  unfold stOf
  rw [if_neg hn,List.drop_zero,this]
structure InI (l:List UInt8) (i m:Nat):Prop where
 lo:stOf l≤i
 le:i≤l.length
 eq:m=dval ((l.take i).drop (stOf l)) 0
 bd:m≤9223372036854775808
theorem InI.start {l:List UInt8} (h:stOf l≤l.length):InI l (stOf l) 0:=by
 refine ⟨nl _,h,?_,by omega⟩
 rw [List.drop_of_length_le (by rw [List.length_take];omega)]
 rfl
theorem take_next {l:List UInt8} {st i:Nat} (hi:i<l.length) (h:st≤i):(l.take (i+1)).drop st=(l.take i).drop st++[l[i]]:=by
 rw [List.take_succ_eq_append_getElem hi,List.drop_append_of_le_length (by rw [List.length_take];omega)]
theorem InI.val {l:List UInt8} {i m:Nat} (h:InI l i m) (hi:i<l.length):dval ((l.take (i+1)).drop (stOf l)) 0=10*m+(l[i].toNat - 48):=by
 rw [take_next hi h.lo,dval_app,←h.eq]
 rfl
theorem InI.next {l:List UInt8} {i m:Nat} (h:InI l i m) (hi:i<l.length) (hb:10*m+(l[i].toNat - 48)≤9223372036854775808):InI l (i+1) (10*m+(l[i].toNat - 48)):=
 ⟨Nat.le_succ_of_le h.lo,hi,(h.val hi).symm,hb⟩
theorem InI.nodig {l:List UInt8} {i m:Nat} (h:InI l i m) (hi:i<l.length) (hc:l[i].toNat<48∨57<l[i].toNat) (v:Int):¬NumIs l v:=fun hn=>by
 have e:=(zJ5 hn).1
 have hm:l[i]∈l.drop (stOf l):=by
  have h0:=h.lo
  have h2:(l.drop (stOf l))[i - stOf l]?=some l[i]:=by rw [List.getElem?_drop,show stOf l+(i - stOf l)=i by omega,List.getElem?_eq_getElem hi]
  exact List.mem_of_getElem? h2
 rw [e] at hm
 have:=dec_byte _ _ hm
 omega
theorem drop_split {l:List UInt8} {st i:Nat} (h:st≤i) (hi:i≤l.length):l.drop st=(l.take i).drop st++l.drop i:=by
 conv=>lhs;rw [←List.take_append_drop i l]
 rw [List.drop_append_of_le_length (by rw [List.length_take];omega)]
theorem InI.over {l:List UInt8} {i m:Nat} (h:InI l i m) (hi:i<l.length) (hb:9223372036854775808<10*m+(l[i].toNat - 48)) (v:Int):¬NumIs l v:=fun hn=>by
 obtain ⟨e,h2,_⟩:=zJ5 hn
 have h3:=dval_dec v.natAbs
 rw [←e] at h3
 have e2:l.drop (stOf l)=(l.take (i+1)).drop (stOf l)++l.drop (i+1):=by
  exact drop_split (Nat.le_succ_of_le h.lo) hi
 rw [e2,dval_app,h.val hi] at h3
 have:=dval_mono (l.drop (i+1)) (10*m+(l[i].toNat - 48))
 omega
theorem InI.end_ {l:List UInt8} {i m:Nat} (h:InI l i m) (hi:i=l.length) {v:Int} (hn:NumIs l v):(l.head?=some 45→v= -(m:Int))∧(¬l.head?=some 45→v=(m:Int)∧m≠9223372036854775808):=by
 obtain ⟨e,h2,h3,h4⟩:=zJ5 hn
 have h5:=dval_dec v.natAbs
 rw [←e] at h5
 have h6:=h.eq
 rw [hi,List.take_length,h5] at h6
 refine ⟨fun g=>?_,fun g=>?_⟩
 ·have:=h3.2 g;omega
 ·have g2:¬v<0:=fun g3=>g (h3.1 g3)
  have:=h4 (by omega)
  omega
theorem num_none {l:List UInt8} (h:l.length=stOf l) (v:Int):¬NumIs l v:=fun hn=>by
 obtain ⟨e,_⟩:=zJ5 hn
 rw [←h,List.drop_length] at e
 obtain ⟨c,r,e2,_⟩:=zI2 (u:=v.natAbs)
 rw [e2] at e
 cases e
theorem num_long {l:List UInt8} (h:20<l.length) (v:Int):¬NumIs l v:=fun hn=>by
 obtain ⟨e,h2,_⟩:=zJ5 hn
 have h3:=congrArg List.length e
 rw [List.length_drop,Lib.decDigits_length] at h3
 have h4:=zD1 19 v.natAbs (by decide) (by omega)
 unfold stOf at h3
 split at h3<;> omega
structure CtI (T:List UInt8) (f i:Nat) (R:List ByteArray):Prop where
 fi:f≤i
 le:i≤T.length
 no:(32:UInt8)∉(T.drop f).take (i - f)
 eq:wds T=lm R++wds (T.drop f)
 ln:R.length≤f
theorem CtI.start (T:List UInt8):CtI T 0 0 []:=⟨nl _,Nat.zero_le _,by simp,by simp [lm],Nat.zero_le _⟩
theorem dropAt {T:List UInt8} {i:Nat} (h:i<T.length):T.drop i=T[i]::T.drop (i+1):=by rw [List.drop_eq_getElem_cons h]
theorem CtI.other {T:List UInt8} {f i:Nat} {R:List ByteArray} (h:CtI T f i R) (hi:i<T.length) (hc:T[i]≠32):CtI T f (i+1) R:=by
 refine ⟨by have:=h.fi;omega,hi,?_,h.eq,h.ln⟩
 have hf:=h.fi
 have e:(T.drop f).take (i+1 - f)=(T.drop f).take (i - f)++[T[i]]:=by
  rw [show i+1 - f=(i - f)+1 from by omega,List.take_add_one]
  congr 1
  rw [List.getElem?_drop,show f+(i - f)=i from by omega]
  simp [hi]
 rw [e,List.mem_append]
 rintro (h1 |h1)
 ·exact h.no h1
 ·rw [List.mem_singleton] at h1;exact hc h1.symm
theorem lm_snoc (R:List ByteArray) (b:ByteArray):lm (R++[b])=lm R++[b.data.toList]:=by simp [lm]
theorem zC3 (s:ByteArray) (f i:Nat):(s.extract f i).data.toList=(s.data.toList.drop f).take (i - f):=by
 rw [ByteArray.data_extract,Array.toList_extract,List.extract_eq_take_drop]
theorem CtI.cut {s:ByteArray} {f i:Nat} {R:List ByteArray} (h:CtI s.data.toList f i R) (hi:i<s.data.toList.length) (hc:s.data.toList[i]=32):CtI s.data.toList (i+1) (i+1) (R++[s.extract f i]):=by
 have hf:=h.fi
 refine ⟨nl _,hi,by simp,?_,by have:=h.ln;simp;omega⟩
 have e1:s.data.toList.drop f=(s.data.toList.drop f).take (i - f)++32::s.data.toList.drop (i+1):=by
  have:=List.take_append_drop (i - f) (s.data.toList.drop f)
  rw [List.drop_drop,show f+(i - f)=i from by omega,dropAt hi,hc] at this
  exact this.symm
 rw [h.eq,lm_snoc,zC3]
 conv=>lhs;rw [e1,wds_first h.no]
 simp
theorem CtI.last {s:ByteArray} {f i:Nat} {R:List ByteArray} (h:CtI s.data.toList f i R) (hi:i=s.size):wds s.data.toList=lm (R++[s.extract f i]):=by
 have hf:=h.fi
 have e3:s.size=s.data.toList.length:=rfl
 have hn:=h.no
 rw [List.take_of_length_le (by rw [List.length_drop];omega)] at hn
 rw [h.eq,zD9 hn,lm_snoc,zC3,List.take_of_length_le (by rw [List.length_drop];omega)]
theorem extract_snoc (s:ByteArray) {f i:Nat} (hf:f≤i) (hi:i<s.size):s.extract f i++s.extract i (i+1)=s.extract f (i+1):=by
 apply zD4
 have e3:s.size=s.data.toList.length:=rfl
 rw [ByteArray.data_append,Array.toList_append,zC3,zC3,zC3]
 rw [show i+1 - f=(i - f)+1 by omega,List.take_add,List.drop_drop,show f+(i - f)=i by omega,show i+1 - i=1 by omega]
theorem extract_none (s:ByteArray) (i:Nat):s.extract i i=⟨#[]⟩:=by
 apply zD4
 rw [zC3];simp
inductive CutR (l:List UInt8) (n:Nat):List ByteArray→ByteArray→Prop
 |all (R):wds l=lm R→R.length≤n→R≠[]→CutR l n R ⟨#[]⟩
 |part (R r):wds l=lm R++wds r.data.toList→R.length=n→CutR l n R r
theorem lm_len (R:List ByteArray):(lm R).length=R.length:=by simp [lm]
theorem lm_nosp {l:List UInt8} {R:List ByteArray} {t:List (List UInt8)} (h:wds l=lm R++t):∀b,b∈R→(32:UInt8)∉b.data.toList:=by
 have key:∀l:List UInt8,∀x,x∈wds l→(32:UInt8)∉x:=by
  intro l
  induction l with
  |nil=>intro x hx;simp [wds] at hx;simp [hx]
  |cons c r ih=>
   intro x hx
   unfold wds at hx
   split at hx
   ·rcases List.mem_cons.1 hx with rfl |h
    ·simp
    ·exact ih x h
   ·rename_i hc
    cases e:wds r with
    |nil=>exact absurd e (zH0 r)
    |cons a t=>
     rw [e] at hx ih
     rcases List.mem_cons.1 hx with rfl |h'
     ·intro h32
      rcases List.mem_cons.1 h32 with h1 |h1
      ·exact hc h1.symm
      ·exact ih a (by simp) h1
     ·exact ih x (by simp [h'])
 intro b hb
 refine key l _ ?_
 rw [h]
 exact List.mem_append_left _ (List.mem_map.2 ⟨b,hb,rfl⟩)
theorem wds_sp (a:List UInt8):wds (32::a)=[]::wds a:=by simp [wds]
theorem wds_nsp {c:UInt8} {a x:List UInt8} {t:List (List UInt8)} (h:¬c=32) (ea:wds a=x::t):wds (c::a)=(c::x)::t:=by simp [wds,h,ea]
theorem wds_inj:∀{a b:List UInt8},wds a=wds b→a=b:=by
 have nil:∀b:List UInt8,wds []=wds b→b=[]:=by
  intro b h
  cases b with
  |nil=>rfl
  |cons c r=>
   cases e:wds r with
   |nil=>exact absurd e (zH0 r)
   |cons x t=>
    by_cases hc:c=32
    ·subst hc
     rw [wds_sp,e] at h
     simp [wds] at h
    ·rw [wds_nsp hc e] at h
     simp [wds] at h
 intro a
 induction a with
 |nil=>intro b h;exact (nil b h).symm
 |cons c a ih=>
  intro b h
  cases b with
  |nil=>exact nil _ h.symm
  |cons d b=>
   cases ea:wds a with
   |nil=>exact absurd ea (zH0 a)
   |cons x t=>
    cases eb:wds b with
    |nil=>exact absurd eb (zH0 b)
    |cons y u=>
     by_cases hc:c=32
     ·subst hc
      by_cases hd:d=32
      ·subst hd
       rw [wds_sp,wds_sp] at h
       rw [ih (b:=b) (List.cons.inj h).2]
      ·rw [wds_sp,wds_nsp hd eb] at h
       exact absurd (List.cons.inj h).1 (by simp)
     ·by_cases hd:d=32
      ·subst hd
       rw [wds_sp,wds_nsp hc ea] at h
       exact absurd (List.cons.inj h).1 (by simp)
      ·rw [wds_nsp hc ea,wds_nsp hd eb] at h
       obtain ⟨h1,h2⟩:=List.cons.inj h
       obtain ⟨h3,h4⟩:=List.cons.inj h1
       rw [h3,ih (b:=b) (by rw [ea,eb,h4,h2])]
theorem wds_lm {R:List ByteArray} (hne:R≠[]) (h:∀b,b∈R→(32:UInt8)∉b.data.toList):wds (jn R)=lm R:=by
 rw [wds_jn R hne]
 clear hne
 induction R with
 |nil=>rfl
 |cons a r ih=>
  rw [List.flatMap_cons,zD9 (h a (by simp)),ih fun b hb=>h b (by simp [hb])]
  rfl
theorem jn_back {l:List UInt8} {R:List ByteArray} (hne:R≠[]) (h:wds l=lm R):jn R=l:=by
 apply wds_inj
 rw [wds_lm hne (lm_nosp (t:=[]) (by rw [List.append_nil];exact h)),h]
theorem jn_more {l:List UInt8} {R:List ByteArray} {t:List (List UInt8)} (hne:R≠[]) (ht:t≠[]) (h:wds l=lm R++t):jn R≠l:=fun e=>by
 have h2:=wds_lm hne (lm_nosp h)
 rw [e,h] at h2
 have:=congrArg List.length h2
 rw [List.length_append] at this
 have:t.length=0:=by omega
 exact ht (List.length_eq_zero_iff.1 this)
open Go.RowKit
def SzI (N:List Ndr) (L:List Lkr):Prop:=(∀x,x∈N→x.nm.size≤300000)∧∀x,x∈L→x.nm.size≤300000∧x.fr.size≤300000∧x.tn.size≤300000∧x.sc.size≤300000∧x.T.length≤100
theorem SzI.step {N N':List Ndr} {L L':List Lkr} {l:List UInt8} (h:SzI N L) (hl:l.length≤300000) (hs:Stp N L (l++[10]) N' L'):SzI N' L':=by
 rcases hs with ⟨a,z,e,hz,e1,e2,e3⟩|⟨a,y,e,hy,e1,e2⟩
 ·have e4:=List.append_cancel_right e
  subst e4 e1 e2 e3
  refine ⟨fun x hx=>?_,fun x hx=>absurd hx (by simp)⟩
  rcases List.mem_append.1 hx with hx |hx
  ·exact h.1 x hx
  ·rw [List.mem_singleton.1 hx]
   exact nT (nd_size hz) hl
 ·have e4:=List.append_cancel_right e
  subst e4 e1 e2
  refine ⟨h.1,fun x hx=>?_⟩
  rcases List.mem_append.1 hx with hx |hx
  ·exact h.2 x hx
  ·rw [List.mem_singleton.1 hx]
   obtain ⟨a1,a2,a3,a4,a5⟩:=lk_size hy
   exact ⟨nT a1 hl,nT a2 hl,nT a3 hl,nT a4 hl,a5⟩
structure RqN (s:List UInt8) (f i:Nat) (ls:List (List UInt8)) (N:List Ndr) (L:List Lkr) (k:Nat):Prop where
 fi:f≤i
 le:i≤s.length
 eq:rln s=ls++rln (s.drop f)
 no:(10:UInt8)∉(s.drop f).take (i - f)
 rn:Runs [] [] ls N L
 kk:k=ls.length+1
 sz:SzI N L
theorem RqN.start (s:List UInt8):RqN s 0 0 [] [] [] 1:=⟨nl _,Nat.zero_le _,rfl,by simp,.nil _ _,rfl,fun x hx=>absurd hx (by simp),fun x hx=>absurd hx (by simp)⟩
theorem RqN.skip {s:List UInt8} {f i:Nat} {ls:List (List UInt8)} {N:List Ndr} {L:List Lkr} {k:Nat} (h:RqN s f i ls N L k) (hi:i<s.length) (hc:s[i]≠10):RqN s f (i+1) ls N L k:=by
 have hf:=h.fi
 refine ⟨by omega,hi,h.eq,?_,h.rn,h.kk,h.sz⟩
 have e:(s.drop f).take (i+1 - f)=(s.drop f).take (i - f)++[s[i]]:=by
  have h1:i+1 - f=(i - f)+1:=by omega
  have h2:i - f<(s.drop f).length:=by rw [List.length_drop];omega
  rw [h1,List.take_succ_eq_append_getElem h2]
  congr 2
  rw [List.getElem_drop]
  congr 1
  omega
 rw [e]
 intro hm
 rcases List.mem_append.1 hm with hm |hm
 ·exact h.no hm
 ·exact hc (List.mem_singleton.1 hm).symm
theorem drop_cut {s:List UInt8} {f i:Nat} (hf:f≤i) (hi:i<s.length) (hc:s[i]=10):s.drop f=(s.drop f).take (i - f)++10::s.drop (i+1):=by
 conv=>lhs;rw [←List.take_append_drop (i - f) (s.drop f)]
 congr 1
 rw [List.drop_drop,show f+(i - f)=i from by omega,List.drop_eq_getElem_cons hi,hc]
theorem RqN.line {s:List UInt8} {f i:Nat} {ls:List (List UInt8)} {N:List Ndr} {L:List Lkr} {k:Nat} (h:RqN s f i ls N L k) (hi:i<s.length) (hc:s[i]=10):rln s=ls++((s.drop f).take (i - f)++[10])::rln (s.drop (i+1)):=by
 rw [h.eq]
 conv=>lhs;rw [drop_cut h.fi hi hc]
 rw [rln_cut _ h.no]
theorem RqN.step {s:List UInt8} {f i:Nat} {ls:List (List UInt8)} {N N':List Ndr} {L L':List Lkr} {k:Nat} (h:RqN s f i ls N L k) (hs:s.length≤262144) (hi:i<s.length) (hc:s[i]=10) (hst:Stp N L ((s.drop f).take (i - f)++[10]) N' L'):RqN s (i+1) (i+1) (ls++[(s.drop f).take (i - f)++[10]]) N' L' (k+1):=by
 refine ⟨nl _,hi,?_,by simp,h.rn.snoc hst,by rw [h.kk];simp,h.sz.step (by rw [List.length_take,List.length_drop];omega) hst⟩
 rw [h.line hi hc]
 simp
theorem RqN.form {s:List UInt8} {f i:Nat} {ls:List (List UInt8)} {N:List Ndr} {L:List Lkr} {k:Nat} (h:RqN s f i ls N L k) (hs:s.length≤262144) (hi:i<s.length) (hc:s[i]=10) (hst:Stuck N L ((s.drop f).take (i - f)++[10])):NtIs netV s [] [] k 7:=
 .form N L ls _ _ k hs h.rn (h.line hi hc) hst h.kk
theorem RqN.tail {s:List UInt8} {f i:Nat} {ls:List (List UInt8)} {N:List Ndr} {L:List Lkr} {k:Nat} (h:RqN s f i ls N L k) (hs:s.length≤262144) (hi:i=s.length) (hf:f<s.length):NtIs netV s [] [] k 7:=by
 have h1:=h.no
 rw [hi,List.take_of_length_le (by rw [List.length_drop];omega)] at h1
 have hne:s.drop f≠[]:=by
  intro e
  have:=congrArg List.length e
  rw [List.length_drop] at this
  simp at this
  omega
 refine .form N L ls (s.drop f) [] k hs h.rn ?_ ?_ h.kk
 ·rw [h.eq,rln_one h1 hne]
 ·rintro N' L' (⟨a,z,e,_⟩|⟨a,y,e,_⟩)
  ·rw [e] at h1;exact h1 (by simp)
  ·rw [e] at h1;exact h1 (by simp)
theorem RqN.all {s:List UInt8} {f i:Nat} {ls:List (List UInt8)} {N:List Ndr} {L:List Lkr} {k:Nat} (h:RqN s f i ls N L k) (hf:¬f<s.length):Runs [] [] (rln s) N L:=by
 have e:=h.eq
 rw [List.drop_eq_nil_of_le (by omega)] at e
 rw [e]
 show Runs [] [] (ls++[]) N L
 rw [List.append_nil]
 exact h.rn
theorem RqN.few {s:List UInt8} {f i:Nat} {ls:List (List UInt8)} {N:List Ndr} {L:List Lkr} {k:Nat} (h:RqN s f i ls N L k) (hs:s.length≤262144):N.length≤262144∧L.length≤262144∧k≤262145:=by
 have h1:=h.rn.count
 have h2:=congrArg List.length h.eq
 have h3:=rln_len s
 rw [List.length_append] at h2
 have h4:=h.kk
 simp at h1
 omega
theorem stuck_no {N:List Ndr} {L:List Lkr} {l:List UInt8} (h1:L=[]→∀x,¬IsNd l x) (h2:∀y,¬IsLk l y):Stuck N L (l++[10]):=by
 rintro N' L' (⟨a,z,e,hz,e1,_⟩|⟨a,y,e,hy,_⟩)
 ·rw [List.append_cancel_right e] at h1
  exact h1 e1 z hz
 ·rw [List.append_cancel_right e] at h2
  exact h2 y hy
theorem stp_nd {N:List Ndr} {l:List UInt8} {x:Ndr} (h:IsNd l x):Stp N [] (l++[10]) (N++[x]) []:=.inl ⟨l,x,rfl,h,rfl,rfl,rfl⟩
theorem stp_lk {N:List Ndr} {L:List Lkr} {l:List UInt8} {x:Lkr} (h:IsLk l x):Stp N L (l++[10]) N (L++[x]):=.inr ⟨l,x,rfl,h,rfl,rfl⟩
theorem SzI.net {NM:List Ndm} {LM:List Lkm} (h:SzI (ndx NM) (lkx LM)) (hn:NM.length≤2000) (hm:LM.length≤2000):NetSz (ndsM NM) NM.length (lksM LM) LM.length:=by
 have hgetn:∀i,i<NM.length→(ndx NM).getD i zNd=(NM.getD i ⟨zNd,none,0⟩).x:=fun i hi=>by unfold ndx;simp [List.getD,hi]
 have hgetl:∀i,i<LM.length→(lkx LM).getD i zLk=(LM.getD i ⟨zLk,none,0⟩).x:=fun i hi=>by unfold lkx;simp [List.getD,hi]
 have hmemn:∀i,i<NM.length→(NM.getD i ⟨zNd,none,0⟩).x∈ndx NM:=fun i hi=>List.mem_map.2 ⟨_,List.mem_of_getElem? (i:=i) (by simp [List.getD,hi]),rfl⟩
 have hmeml:∀i,i<LM.length→(LM.getD i ⟨zLk,none,0⟩).x∈lkx LM:=fun i hi=>List.mem_map.2 ⟨_,List.mem_of_getElem? (i:=i) (by simp [List.getD,hi]),rfl⟩
 have hmx:maxLen=9223372036854775807:=rfl
 exact ⟨hn,hm,fun i hi=>by
  show ((ndx NM).getD i zNd).nm.size≤_
  rw [hgetn i hi];have:=h.1 _ (hmemn i hi);omega,fun i hi=>by
  show ((lkx LM).getD i zLk).nm.size≤_
  rw [hgetl i hi];have:=(h.2 _ (hmeml i hi)).1;omega,fun i hi=>by
  show ((lkx LM).getD i zLk).fr.size≤_
  rw [hgetl i hi];have:=(h.2 _ (hmeml i hi)).2.1;omega,fun i hi=>by
  show ((lkx LM).getD i zLk).tn.size≤_
  rw [hgetl i hi];have:=(h.2 _ (hmeml i hi)).2.2.1;omega,fun i hi=>by
  show ((lkx LM).getD i zLk).sc.size≤_
  rw [hgetl i hi];have:=(h.2 _ (hmeml i hi)).2.2.2.1;omega,fun i hi=>by
  show ((lkx LM).getD i zLk).T.length≤_
  rw [hgetl i hi];have:=(h.2 _ (hmeml i hi)).2.2.2.2;omega⟩
end Go.Proofs.YtghefgifhebniaaGreatDoor

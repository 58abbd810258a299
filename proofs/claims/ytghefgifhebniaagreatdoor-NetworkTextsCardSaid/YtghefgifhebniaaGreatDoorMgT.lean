/- Merged texts of these proofs: Rdc, Rdd, Rin, Rct, PrR, PrS. -/
import Derived.Test.YtghefgifhebniaaGreatDoorMgG
import Derived.Test.YtghefgifhebniaaGreatDoorMgI
import Derived.Test.YtghefgifhebniaaGreatDoorMgB
import Derived.Test.YtghefgifhebniaaGreatDoorMgQ
import Derived.BigQuiet
import Derived.Deep.QuietTactic
namespace Go.Proofs.YtghefgifhebniaaGreatDoor
open Go.RowKit
set_option linter.unusedVariables false
set_option linter.unusedSimpArgs false
theorem dg_eq (d:Nat) (hd:d<10):dg d=⟨#[UInt8.ofNat (48+d)]⟩:=by
 have:d=0∨d=1∨d=2∨d=3∨d=4∨d=5∨d=6∨d=7∨d=8∨d=9:=by omega
 rcases this with rfl |rfl |rfl |rfl |rfl |rfl |rfl |rfl |rfl |rfl<;> rfl
theorem decB_one {u:Nat} (h:u<10):(⟨(Lib.decDigits u).toArray⟩:ByteArray)=dg u:=by rw [Lib.decDigits_one h,dg_eq u h]
theorem decB_big {u:Nat} (h:¬u<10):(⟨(Lib.decDigits u).toArray⟩:ByteArray)=(⟨(Lib.decDigits (u / 10)).toArray⟩:ByteArray)++dg (u % 10):=by
 rw [dg_eq _ (by omega)]
 apply ByteArray.ext
 apply Array.ext'
 rw [ByteArray.data_append]
 conv=>lhs;rw [Lib.decDigits,dif_neg h]
 simp
theorem decB_size {u:Nat} (h:u<1000000000000000000):(((⟨(Lib.decDigits u).toArray⟩:ByteArray).size:Nat):Int)≤8388608:=by
 have:(⟨(Lib.decDigits u).toArray⟩:ByteArray).size=(Lib.decDigits u).length:=rfl
 rw [this,Lib.decDigits_length]
 have:=zD1 18 u (by decide) (by rw [pow18];exact h)
 omega
theorem rdecN (n:Nat):n<1000000000000000000→∀w,Calls Tryz.prog 157 #[.int .i64 (n:Int)] w fun e w'=>e= .returned (.string ⟨(Lib.decDigits n).toArray⟩)∧w=w':=by
 induction n using Nat.strongRecOn with
 |_ n ih=>
  intro hn w
  by_cases h10:n<10
  ·rw [decB_one h10]
   exact rdec_one n h10 w
  ·obtain ⟨a,ha⟩:∃z,z=n / 10:=⟨_,rfl⟩
   obtain ⟨b,hb⟩:∃z,z=n % 10:=⟨_,rfl⟩
   have s:=fun w=>ih a (by omega) (by omega) w
   have z1:=decB_size (u:=a) (by omega)
   rw [decB_big h10,←ha,←hb]
   have e1:Int.tmod (n:Int) 10=(b:Int):=(tmod_nat n 10).trans (by omega)
   have e0:Int.tdiv (n:Int) 10=(a:Int):=(tdiv_nat n 10).trans (by omega)
   have e1':(n:Int) % 10=(b:Int):=by omega
   have e0':(n:Int) / 10=(a:Int):=by omega
   obtain ⟨c,hc⟩:∃c,c=48+b:=⟨_,rfl⟩
   have e2:IntKind.i64.wrap (48+(b:Int))=(c:Int):=by rw [IntKind.wrap_i64];omega
   have e3:IntKind.i32.wrap (c:Int)=(c:Int):=by unfold IntKind.wrap;simp [IntKind.bits,IntKind.signed];omega
   have t1:decide ((n:Int)<0)=false:=by simp
   have t2:decide ((10:Int)≤(n:Int))=true:=dT (by omega)
   have e5:dg b=Utf8.encode (c:Int):=by unfold dg;rw [hc]
   have z2:=dg_size b (by omega)
   rw [e5] at z2⊢
   generalize (⟨(Lib.decDigits a).toArray⟩:ByteArray)=da at*
   have S:=LH s
   generalize hdc:Utf8.encode (c:Int)=dc at*
   have e4:IntKind.i64.wrap (a:Int)=(a:Int):=by rw [IntKind.wrap_i64];omega
   clear ha hb hc hn e5 ih s h10
   go_enter Tryz.func157,Tryz.ntmps157
   go_wp2_with (first |(go_at_call 157;(with_reducible refine (S.out _).mono ?_);rintro e w' ⟨rfl,rfl⟩))
   go_ret
   exact ⟨rfl,rfl⟩
theorem tmod_neg (n k:Nat):Int.tmod (-(n:Int)) (k:Int)= -((n % k:Nat):Int):=by rw [Int.neg_tmod,Int.ofNat_tmod]
theorem tdiv_neg (n k:Nat):Int.tdiv (-(n:Int)) (k:Int)= -((n / k:Nat):Int):=by rw [Int.neg_tdiv,Int.ofNat_tdiv]
theorem minB (l:List UInt8):(⟨(45::l).toArray⟩:ByteArray)=(⟨#[45]⟩:ByteArray)++⟨l.toArray⟩:=by
 apply ByteArray.ext
 apply Array.ext'
 rw [ByteArray.data_append]
 simp
theorem minB_size {l:List UInt8} (h:l.length≤18):(((⟨(45::l).toArray⟩:ByteArray).size:Nat):Int)≤8388608:=by
 have:(⟨(45::l).toArray⟩:ByteArray).size=(45::l).length:=rfl
 rw [this,List.length_cons];omega
theorem rdecM (n:Nat):0<n→n<1000000000000000000→∀w,Calls Tryz.prog 157 #[.int .i64 (-(n:Int))] w fun e w'=>e= .returned (.string ⟨(45::Lib.decDigits n).toArray⟩)∧w=w':=by
 induction n using Nat.strongRecOn with
 |_ n ih=>
  intro h0 hn w
  obtain ⟨m,hm⟩:∃m:Int,m= -(n:Int):=⟨_,rfl⟩
  have t1:decide (m<0)=true:=dT (by omega)
  by_cases h10:n<10
  ·obtain ⟨c,hc⟩:∃c,c=48+n:=⟨_,rfl⟩
   have e2:IntKind.i64.wrap (48 - m)=(c:Int):=by rw [IntKind.wrap_i64];omega
   have e3:IntKind.i32.wrap (c:Int)=(c:Int):=by unfold IntKind.wrap;simp [IntKind.bits,IntKind.signed];omega
   have t2:decide ((-10:Int)<m)=true:=dT (by omega)
   have e5:dg n=Utf8.encode (c:Int):=by unfold dg;rw [hc]
   have z2:=dg_size n h10
   rw [minB,decB_one h10,e5]
   rw [e5] at z2
   rw [←hm]
   generalize hdc:Utf8.encode (c:Int)=dc at*
   clear hc hn e5 ih h10 h0 hm
   go_enter Tryz.func157,Tryz.ntmps157
   go_wp2_with fail
   go_ret
   exact ⟨rfl,rfl⟩
  ·obtain ⟨a,ha⟩:∃z,z=n / 10:=⟨_,rfl⟩
   obtain ⟨b,hb⟩:∃z,z=n % 10:=⟨_,rfl⟩
   obtain ⟨q,hq⟩:∃q:Int,q= -(a:Int):=⟨_,rfl⟩
   obtain ⟨r,hr⟩:∃r:Int,r= -(b:Int):=⟨_,rfl⟩
   have s:=fun w=>ih a (by omega) (by omega) (by omega) w
   rw [←hq] at s
   have hl:(Lib.decDigits a).length≤18:=by rw [Lib.decDigits_length];exact zD1 18 a (by decide) (by rw [pow18];omega)
   have z1:=minB_size hl
   have eB:(⟨(45::Lib.decDigits n).toArray⟩:ByteArray)=(⟨(45::Lib.decDigits a).toArray⟩:ByteArray)++dg b:=by
      rw [minB (Lib.decDigits n),minB (Lib.decDigits a),decB_big h10,←ha,←hb,ByteArray.append_assoc]
   rw [eB]
   have e1:Int.tmod m 10=r:=by rw [hm,hr,hb];exact tmod_neg n 10
   have e0:Int.tdiv m 10=q:=by rw [hm,hq,ha];exact tdiv_neg n 10
   obtain ⟨c,hc⟩:∃c,c=48+b:=⟨_,rfl⟩
   have e2:IntKind.i64.wrap (48 - r)=(c:Int):=by rw [IntKind.wrap_i64];omega
   have e3:IntKind.i32.wrap (c:Int)=(c:Int):=by unfold IntKind.wrap;simp [IntKind.bits,IntKind.signed];omega
   have t2:decide ((-10:Int)<m)=false:=dF (by omega)
   have e5:dg b=Utf8.encode (c:Int):=by unfold dg;rw [hc]
   have z2:=dg_size b (by omega)
   rw [e5] at z2⊢
   rw [←hm]
   generalize (⟨(45::Lib.decDigits a).toArray⟩:ByteArray)=da at*
   have S:=LH s
   generalize hdc:Utf8.encode (c:Int)=dc at*
   have e4:IntKind.i64.wrap q=q:=by rw [IntKind.wrap_i64];omega
   clear ha hb hc hn e5 ih s h10 eB h0 hm hq hr hl
   go_enter Tryz.func157,Tryz.ntmps157
   go_wp2_with (first |(go_at_call 157;(with_reducible refine (S.out _).mono ?_);rintro e w' ⟨rfl,rfl⟩))
   go_ret
   exact ⟨rfl,rfl⟩
theorem rdec (v:Int) (h:near v) (w:World):Calls Tryz.prog 157 #[.int .i64 v] w fun e w'=>e= .returned (.string ⟨(Lib.itoa v).toArray⟩)∧w=w':=by
 have h1:=h.1
 have h2:=h.2
 by_cases hv:v<0
 ·rw [zG0 hv]
  have e:v= -((v.natAbs:Nat):Int):=by omega
  have:=rdecM v.natAbs (by omega) (by omega) w
  rw [←e] at this
  exact this
 ·rw [zE7 hv]
  have e:v=((v.toNat:Nat):Int):=by omega
  have:=rdecN v.toNat (by omega) w
  rw [←e] at this
  exact this
theorem tt_tx (X Y:Nat→Int):∀n,(tt (fun v=>⟨(Lib.itoa v).toArray⟩) X Y n).data.toList=txL X Y n
 |0=>rfl
 |n+1=>by
  show ((((if 0<n then tt _ X Y n++⟨#[32]⟩ else tt _ X Y n)++⟨(Lib.itoa (X n)).toArray⟩)++⟨#[58]⟩)++⟨(Lib.itoa (Y n)).toArray⟩:ByteArray).data.toList=(if 0<n then txL X Y n++[32] else txL X Y n)++ktx (X n) (Y n)
  have ih:=tt_tx X Y n
  split<;> simp [ByteArray.data_append,ih,ktx]
theorem zK4 (b off n c:Nat) (X Y:Nat→Int) (w:World) (hok:TabOK n X Y) (ht:TabAt w b off n X Y):
 Calls Tryz.prog 127 #[.slice (some ⟨b,off,none⟩) n c] w fun e w'=>e= .returned (.string ⟨(txL X Y n).toArray⟩)∧Below w.heap.size w w':=by
 have:=rtext b off n c X Y (fun v=>⟨(Lib.itoa v).toArray⟩) w hok.2.1 ht (fun k hk w=>rdec _ (hok.near k hk).1 w) (fun k hk w=>rdec _ (hok.near k hk).2 w) (fun k hk=>⟨nT (itoa_size (hok.near k hk).1) (by omega),nT (itoa_size (hok.near k hk).2) (by omega)⟩)
 rw [list_of (tt_tx X Y n)] at this
 exact this
theorem rdecN64 (n:Nat) (hn:n<9223372036854775808) (w:World):Calls Tryz.prog 157 #[.int .i64 (n:Int)] w fun e w'=>e= .returned (.string ⟨(Lib.decDigits n).toArray⟩)∧w=w':=by
 by_cases g10:n<1000000000000000000
 ·exact rdecN n g10 w
 have h10:¬n<10:=by omega
 obtain ⟨a,ha⟩:∃z,z=n / 10:=⟨_,rfl⟩
 obtain ⟨b,hb⟩:∃z,z=n % 10:=⟨_,rfl⟩
 have s:=fun w=>rdecN a (by omega) w
 have z1:=decB_size (u:=a) (by omega)
 rw [decB_big h10,←ha,←hb]
 have e1:Int.tmod (n:Int) 10=(b:Int):=(tmod_nat n 10).trans (by omega)
 have e0:Int.tdiv (n:Int) 10=(a:Int):=(tdiv_nat n 10).trans (by omega)
 have e1':(n:Int) % 10=(b:Int):=by omega
 have e0':(n:Int) / 10=(a:Int):=by omega
 obtain ⟨c,hc⟩:∃c,c=48+b:=⟨_,rfl⟩
 have e2:IntKind.i64.wrap (48+(b:Int))=(c:Int):=by rw [IntKind.wrap_i64];omega
 have e3:IntKind.i32.wrap (c:Int)=(c:Int):=by unfold IntKind.wrap;simp [IntKind.bits,IntKind.signed];omega
 have t1:decide ((n:Int)<0)=false:=by simp
 have t2:decide ((10:Int)≤(n:Int))=true:=dT (by omega)
 have e5:dg b=Utf8.encode (c:Int):=by unfold dg;rw [hc]
 have z2:=dg_size b (by omega)
 rw [e5] at z2⊢
 generalize (⟨(Lib.decDigits a).toArray⟩:ByteArray)=da at*
 have S:=LH s
 generalize hdc:Utf8.encode (c:Int)=dc at*
 have e4:IntKind.i64.wrap (a:Int)=(a:Int):=by rw [IntKind.wrap_i64];omega
 clear ha hb hc hn e5 s h10 g10
 go_enter Tryz.func157,Tryz.ntmps157
 go_wp2_with (first |(go_at_call 157;(with_reducible refine (S.out _).mono ?_);rintro e w' ⟨rfl,rfl⟩))
 go_ret
 exact ⟨rfl,rfl⟩
theorem rdecM64 (n:Nat) (h0:0<n) (hn:n≤9223372036854775808) (w:World):Calls Tryz.prog 157 #[.int .i64 (-(n:Int))] w fun e w'=>e= .returned (.string ⟨(45::Lib.decDigits n).toArray⟩)∧w=w':=by
 by_cases g10:n<1000000000000000000
 ·exact rdecM n h0 g10 w
 have h10:¬n<10:=by omega
 obtain ⟨m,hm⟩:∃m:Int,m= -(n:Int):=⟨_,rfl⟩
 have t1:decide (m<0)=true:=dT (by omega)
 obtain ⟨a,ha⟩:∃z,z=n / 10:=⟨_,rfl⟩
 obtain ⟨b,hb⟩:∃z,z=n % 10:=⟨_,rfl⟩
 obtain ⟨q,hq⟩:∃q:Int,q= -(a:Int):=⟨_,rfl⟩
 obtain ⟨r,hr⟩:∃r:Int,r= -(b:Int):=⟨_,rfl⟩
 have s:=fun w=>rdecM a (by omega) (by omega) w
 rw [←hq] at s
 have hl:(Lib.decDigits a).length≤18:=by rw [Lib.decDigits_length];exact zD1 18 a (by decide) (by rw [pow18];omega)
 have z1:=minB_size hl
 have eB:(⟨(45::Lib.decDigits n).toArray⟩:ByteArray)=(⟨(45::Lib.decDigits a).toArray⟩:ByteArray)++dg b:=by
  rw [minB (Lib.decDigits n),minB (Lib.decDigits a),decB_big h10,←ha,←hb,ByteArray.append_assoc]
 rw [eB]
 have e1:Int.tmod m 10=r:=by rw [hm,hr,hb];exact tmod_neg n 10
 have e0:Int.tdiv m 10=q:=by rw [hm,hq,ha];exact tdiv_neg n 10
 obtain ⟨c,hc⟩:∃c,c=48+b:=⟨_,rfl⟩
 have e2:IntKind.i64.wrap (48 - r)=(c:Int):=by rw [IntKind.wrap_i64];omega
 have e3:IntKind.i32.wrap (c:Int)=(c:Int):=by unfold IntKind.wrap;simp [IntKind.bits,IntKind.signed];omega
 have t2:decide ((-10:Int)<m)=false:=dF (by omega)
 have e5:dg b=Utf8.encode (c:Int):=by unfold dg;rw [hc]
 have z2:=dg_size b (by omega)
 rw [e5] at z2⊢
 rw [←hm]
 generalize (⟨(45::Lib.decDigits a).toArray⟩:ByteArray)=da at*
 have S:=LH s
 generalize hdc:Utf8.encode (c:Int)=dc at*
 have e4:IntKind.i64.wrap q=q:=by rw [IntKind.wrap_i64];omega
 clear ha hb hc hn e5 s h10 g10 eB h0 hm hq hr hl
 go_enter Tryz.func157,Tryz.ntmps157
 go_wp2_with (first |(go_at_call 157;(with_reducible refine (S.out _).mono ?_);rintro e w' ⟨rfl,rfl⟩))
 go_ret
 exact ⟨rfl,rfl⟩
theorem rdec64 (v:Int) (h1: -9223372036854775808≤v) (h2:v≤9223372036854775807) (w:World):Calls Tryz.prog 157 #[.int .i64 v] w fun e w'=>e= .returned (.string ⟨(Lib.itoa v).toArray⟩)∧w=w':=by
 by_cases hv:v<0
 ·rw [zG0 hv]
  have e:v= -((v.natAbs:Nat):Int):=by omega
  have:=rdecM64 v.natAbs (by omega) (by omega) w
  rw [←e] at this
  exact this
 ·rw [zE7 hv]
  have e:v=((v.toNat:Nat):Int):=by omega
  have:=rdecN64 v.toNat (by omega) w
  rw [←e] at this
  exact this
inductive RIntR (l:List UInt8):Int→Bool→Prop
 |ok (v):NumIs l v→RIntR l v true
 |no (v):(∀u,¬NumIs l u)→RIntR l v false
def RIntPost (w:World) (l:List UInt8) (e:Ending) (w':World):Prop:=∃(v:Int) (f:Bool),RIntR l v f∧e= .returned (.tuple #[.int .i64 v,.bool f])∧w=w'
theorem size_l (s:ByteArray):s.size=s.data.toList.length:=rfl
theorem str_eqB {a b:ByteArray}:(a.toList==b.toList)=decide (a.data.toList=b.data.toList):=by
 rw [Lib.toList_data,Lib.toList_data]
 by_cases h:a.data.toList=b.data.toList
 ·rw [h];simp
 ·rw [dF h];exact beq_eq_false_iff_ne.2 h
theorem int_last {l:List UInt8} {v:Int} (h1: -9223372036854775808≤v) (h2:v≤9223372036854775807) (h3:∀u,NumIs l u→u=v):RIntR l v (decide (Lib.itoa v=l)):=by
 by_cases e:Lib.itoa v=l
 ·rw [dT e];exact .ok v (num64 h1 h2 e)
 ·rw [dF e]
  refine .no v fun u hu=>?_
  have:=h3 u hu
  subst this
  exact e hu.2
set_option maxRecDepth 100000 in
set_option maxHeartbeats 8000000 in
theorem rint (s:ByteArray) (hs:s.size≤300000) (w:World):Calls Tryz.prog 122 #[.string s] w (RIntPost w s.data.toList):=by
 have hsl:=size_l s
 by_cases h0:s.size=0
 ·have t1:decide ((0:Int)<(s.size:Int))=false:=dF (by omega)
  have t1':decide (0<s.size)=false:=dF (by omega)
  have t2:((0:Int)==(s.size:Int))=true:=by simp;omega
  have t2':decide ((0:Int)=(s.size:Int))=true:=dT (by omega)
  have t2'':decide (0=s.size)=true:=dT (by omega)
  have HR:Hid (RIntR s.data.toList 0 false):=.no 0 fun u hu=>hu.ne (List.length_eq_zero_iff.1 (by omega))
  clear hs hsl h0
  go_enter Tryz.func122,Tryz.ntmps122
  go_wp2_with fail
  go_ret2
  exact ⟨0,false,HR.out,rfl,rfl⟩
 have hp:0<s.size:=by omega
 have t1:decide ((0:Int)<(s.size:Int))=true:=dT (by omega)
 have t1':decide (0<s.size)=true:=dT hp
 have k1:(0:Int)<(s.size:Int):=by omega
 obtain ⟨c0,hc0⟩:∃c:Nat,(s[0]'hp).toNat=c:=⟨_,rfl⟩
 have hhd:s.data.toList.head?=some (s[0]'hp):=by
  have:s.data.toList[0]?=some (s[0]'hp):=by
   rw [List.getElem?_eq_getElem (by omega)];rfl
  rw [←this];exact List.head?_eq_getElem?
 obtain ⟨ng,hng⟩:∃b:Bool,b=decide (c0=45):=⟨_,rfl⟩
 have hneg:ng=true↔s.data.toList.head?=some 45:=by
  rw [hng,hhd,decide_eq_true_iff,Option.some.injEq,←hc0]
  exact ⟨fun h=>UInt8.toNat_inj.1 h,fun h=>by rw [h];rfl⟩
 have u1:((c0:Int)==45)=ng:=by
  rw [hng]
  by_cases h:c0=45
  ·rw [dT h];simp<;> omega
  ·rw [dF h];simp<;> omega
 have u2:decide (c0=45)=ng:=hng.symm
 obtain ⟨st,hst⟩:∃st,st=stOf s.data.toList:=⟨_,rfl⟩
 have hst':st=if ng=true then 1 else 0:=by
  rw [hst];unfold stOf
  by_cases h:ng=true
  ·rw [if_pos h,if_pos (hneg.1 h)]
  ·rw [if_neg h,if_neg fun g=>h (hneg.2 g)]
 have hcase:ng=true∨ng=false:=by cases ng<;> simp
 have HNG:=LH hneg
 have hlr:∀(n:Nat),n=n:=fun _=>rfl
 clear hlr
 by_cases hbad:st=s.size∨20<s.size
 ·have HR:Hid (RIntR s.data.toList 0 false):=by
   refine .no 0 fun u=>?_
   rcases hbad with h |h
   ·exact num_none (by omega) u
   ·exact num_long (by omega) u
  have hb2:¬st=s.size→20<s.size:=fun h=>by rcases hbad with g |g<;> omega
  rcases hcase with rfl |rfl
  ·rw [if_pos rfl] at hst'
   subst hst'
   by_cases he:1=s.size
   ·have t2:((1:Int)==(s.size:Int))=true:=by simp;omega
    have t2'':decide (1=s.size)=true:=dT he
    clear hs hsl h0 hng hneg hst hbad hb2 he hhd
    go_enter Tryz.func122,Tryz.ntmps122
    go_wp2_with fail
    go_ret2
    exact ⟨0,false,HR.out,rfl,rfl⟩
   ·have t2:((1:Int)==(s.size:Int))=false:=by simp;omega
    have t2'':decide (1=s.size)=false:=dF he
    have t3:decide ((20:Int)<(s.size:Int))=true:=dT (by have:=hb2 he;omega)
    have t3':decide (20<s.size)=true:=dT (hb2 he)
    clear hs hsl h0 hng hneg hst hbad hb2 he hhd
    go_enter Tryz.func122,Tryz.ntmps122
    go_wp2_with fail
    go_ret2
    exact ⟨0,false,HR.out,rfl,rfl⟩
  ·rw [if_neg (by decide)] at hst'
   subst hst'
   have he:¬0=s.size:=by omega
   have t2:((0:Int)==(s.size:Int))=false:=by simp;omega
   have t2'':decide (0=s.size)=false:=dF he
   have t3:decide ((20:Int)<(s.size:Int))=true:=dT (by have:=hb2 he;omega)
   have t3':decide (20<s.size)=true:=dT (hb2 he)
   clear hs hsl h0 hng hneg hst hbad hb2 he hhd
   go_enter Tryz.func122,Tryz.ntmps122
   go_wp2_with fail
   go_ret2
   exact ⟨0,false,HR.out,rfl,rfl⟩
 have hb1:¬st=s.size:=fun h=>hbad (.inl h)
 have hb2:s.size≤20:=by
  rcases Nat.lt_or_ge 20 s.size with h |h
  ·exact absurd (.inr h) hbad
  ·exact h
 have t3:decide ((20:Int)<(s.size:Int))=false:=dF (by omega)
 have t3':decide (20<s.size)=false:=dF (by omega)
 have hst1:st≤1:=by rw [hst'];split<;> omega
 have HI0:Hid (InI s.data.toList st 0):=by
  show InI _ _ _
  rw [hst]
  exact InI.start (by omega)
 have H20:=LH hb2
 have HRET:Hid (∀(i m:Nat),InI s.data.toList i m→i=s.size→ng=true→RIntR s.data.toList (-(m:Int)) (decide (Lib.itoa (-(m:Int))=s.data.toList))):=fun i m hI hi hn=>int_last (by have:=hI.bd;omega) (by omega) fun u hu=>(hI.end_ (by omega) hu).1 (HNG.out.1 hn)
 have HRET2:Hid (∀(i m:Nat),InI s.data.toList i m→i=s.size→ng=false→m≠9223372036854775808→RIntR s.data.toList (m:Int) (decide (Lib.itoa (m:Int)=s.data.toList))):=fun i m hI hi hn hm=>int_last (by omega) (by have:=hI.bd;omega) fun u hu=>((hI.end_ (by omega) hu).2 (fun g=>by have:=HNG.out.2 g;rw [hn] at this;cases this)).1
 have HRET3:Hid (∀(i m:Nat),InI s.data.toList i m→i=s.size→ng=false→m=9223372036854775808→∀v,RIntR s.data.toList v false):=fun i m hI hi hn hm v=>.no v fun u hu=>((hI.end_ (by omega) hu).2 (fun g=>by have:=HNG.out.2 g;rw [hn] at this;cases this)).2 hm
 have HDG:Hid (∀(i m:Nat) (hi:i<s.size),InI s.data.toList i m→((s[i]'hi).toNat<48∨57<(s[i]'hi).toNat)→∀v,RIntR s.data.toList v false):=fun i m hi hI hc v=>.no v fun u=>hI.nodig (by omega) hc u
 have HOV:Hid (∀(i m:Nat) (hi:i<s.size),InI s.data.toList i m→9223372036854775808<10*m+((s[i]'hi).toNat - 48)→∀v,RIntR s.data.toList v false):=fun i m hi hI hc v=>.no v fun u=>hI.over (by omega) hc u
 have HNX:Hid (∀(i m:Nat) (hi:i<s.size),InI s.data.toList i m→10*m+((s[i]'hi).toNat - 48)≤9223372036854775808→InI s.data.toList (i+1) (10*m+((s[i]'hi).toNat - 48))):=fun i m hi hI hc=>hI.next (by omega) hc
 have HDEC:Hid (∀(v:Int) (w:World), -9223372036854775808≤v→v≤9223372036854775807→Calls Tryz.prog 157 #[.int .i64 v] w fun e w'=>e= .returned (.string ⟨(Lib.itoa v).toArray⟩)∧w=w'):=fun v w h1 h2=>rdec64 v h1 h2 w
 have HEQ:Hid (∀v:Int,((⟨(Lib.itoa v).toArray⟩:ByteArray).toList==s.toList)=decide (Lib.itoa v=s.data.toList)):=fun v=>str_eqB
 have HBD:Hid (∀(i m:Nat),InI s.data.toList i m→m≤9223372036854775808):=fun i m h=>h.bd
 clear hs hsl h0 hng hneg hst hbad hhd hb2 hst1
 have HB1:=LH hb1
 rcases hcase with rfl |rfl
 ·rw [if_pos rfl] at hst'
  subst hst'
  have t2:((1:Int)==(s.size:Int))=false:=by have:=HB1.out;simp;omega
  have t2'':decide (1=s.size)=false:=dF HB1.out
  clear hb1
  go_enter Tryz.func122,Tryz.ntmps122
  go_wp2_with fail
  go_loop [4,6] (fun a b=>∃(i m:Nat) (nn:Int),a= .int .i64 i∧b= .int .i64 nn∧Hid (nn= -(m:Int))∧Hid (i≤s.size)∧Hid (InI s.data.toList i m)) (fun a _=>s.size - (intOf a).toNat)
  case atStart=>exact ⟨1,0,0,rfl,rfl,rfl,by have:=HB1.out;have:=hp;show _≤_;omega,HI0.out⟩
  case round=>
   obtain ⟨i,m,nn,rfl,rfl,HM,HK,HI⟩:=hrel
   have h20:=H20.out
   have hik:=HK.out
   have hmb:=HBD.out i m HI.out
   have hmn:=HM.out
   by_cases hk:i<s.size
   case neg=>
      have T3:decide ((i:Int)<(s.size:Int))=false:=dF (by omega)
      have T3':decide (i<s.size)=false:=dF hk
      have he:i=s.size:=by omega
      have HR:Hid (RIntR s.data.toList nn (decide (Lib.itoa nn=s.data.toList))):=by
       show RIntR _ _ _
       rw [hmn];exact HRET.out i m HI.out he (by trivial)
      have SD:Hid (∀w,Calls Tryz.prog 157 #[.int .i64 nn] w fun e w'=>e= .returned (.string ⟨(Lib.itoa nn).toArray⟩)∧w=w'):=fun w=>HDEC.out nn w (by omega) (by omega)
      have SE:=LH (HEQ.out nn)
      generalize (⟨(Lib.itoa nn).toArray⟩:ByteArray)=ds at SD SE
      clear h20 hik hmb hmn hk he
      go_wp2_with (first
       |(go_at_call 157
         with_reducible refine (SD.out _).mono ?_
         rintro e w5 ⟨rfl,rfl⟩))
      go_ret2
      exact ⟨nn,_,HR.out,by rw [←SE.out];rfl,rfl⟩
   have T3:decide ((i:Int)<(s.size:Int))=true:=dT (by omega)
   have T3':decide (i<s.size)=true:=dT hk
   have q0:(0:Int)≤(i:Int):=by omega
   have q1:(i:Int)<(s.size:Int):=by omega
   have HDi:=LH (HDG.out i m hk HI.out)
   have HOi:=LH (HOV.out i m hk HI.out)
   have HNi:=LH (HNX.out i m hk HI.out)
   obtain ⟨c,hc⟩:∃c:Nat,(s[i]'hk).toNat=c:=⟨_,rfl⟩
   rw [hc] at HDi HOi HNi
   by_cases hc1:c<48
   ·have T5:decide ((c:Int)<48)=true:=dT (by omega)
    have T5':decide (c<48)=true:=dT hc1
    have HR:=LH (HDi.out (.inl hc1) 0)
    clear hc1 HDi HOi HNi h20 hik hmb hmn
    go_wp2_with fail
    go_ret2
    exact ⟨0,false,HR.out,rfl,rfl⟩
   have T5:decide ((c:Int)<48)=false:=dF (by omega)
   have T5':decide (c<48)=false:=dF hc1
   by_cases hc2:57<c
   ·have T6:decide ((57:Int)<(c:Int))=true:=dT (by omega)
    have T6':decide (57<c)=true:=dT hc2
    have HR:=LH (HDi.out (.inr hc2) 0)
    clear hc1 hc2 HDi HOi HNi h20 hik hmb hmn
    go_wp2_with fail
    go_ret2
    exact ⟨0,false,HR.out,rfl,rfl⟩
   have T6:decide ((57:Int)<(c:Int))=false:=dF (by omega)
   have T6':decide (57<c)=false:=dF hc2
   obtain ⟨d,hd⟩:∃z,z=c - 48:=⟨_,rfl⟩
   rw [←hd] at HOi HNi
   have x4:IntKind.u8.wrap ((c:Int) - 48)=(d:Int):=by unfold IntKind.wrap;simp [IntKind.bits,IntKind.signed];omega
   have x5:IntKind.i64.wrap (d:Int)=(d:Int):=by rw [IntKind.wrap_i64];omega
   obtain ⟨t,ht⟩:∃t:Int,t= -9223372036854775808+(d:Int):=⟨_,rfl⟩
   have x6:IntKind.i64.wrap (-9223372036854775808+(d:Int))=t:=by rw [IntKind.wrap_i64];omega
   obtain ⟨q,hq⟩:∃q:Int,q=Int.tdiv t 10:=⟨_,rfl⟩
   have x7:Int.tdiv t 10=q:=hq.symm
   obtain ⟨tn,htn⟩:∃tn:Nat,t= -(tn:Int):=⟨t.natAbs,by omega⟩
   have hq2:q= -((tn / 10:Nat):Int):=by rw [hq,htn];exact tdiv_neg tn 10
   have x8:IntKind.i64.wrap q=q:=by rw [IntKind.wrap_i64];omega
   by_cases hov:nn<q
   ·have T7:decide (nn<q)=true:=dT hov
    have HR:=LH (HOi.out (by omega) 0)
    clear hc1 hc2 HDi HOi HNi h20 hik hmb hmn hov hq hq2 ht htn hd
    go_wp2_with fail
    go_ret2
    exact ⟨0,false,HR.out,rfl,rfl⟩
   have T7:decide (nn<q)=false:=dF hov
   have HI2:=HNi.out (by omega)
   obtain ⟨i',hi'⟩:∃z,z=i+1:=⟨_,rfl⟩
   obtain ⟨m10,hm10⟩:∃z:Int,z=10*nn:=⟨_,rfl⟩
   obtain ⟨n2,hn2⟩:∃z:Int,z=m10 - (d:Int):=⟨_,rfl⟩
   obtain ⟨m2,hm2⟩:∃z:Nat,z=10*m+d:=⟨_,rfl⟩
   have x1:IntKind.i64.wrap ((i:Int)+1)=(i':Int):=by rw [IntKind.wrap_i64];omega
   have x2:IntKind.i64.wrap (10*nn)=m10:=by rw [IntKind.wrap_i64];omega
   have x3:IntKind.i64.wrap (m10 - (d:Int))=n2:=by rw [IntKind.wrap_i64];omega
   rw [←hi',←hm2] at HI2
   have HI3:=LH HI2
   have HM2:Hid (n2= -(m2:Int)):=by show _=_;omega
   have HK2:Hid (i'≤s.size):=by show i'≤s.size;omega
   have HMS:Hid (s.size - (intOf (Value.int .i64 (i':Int))).toNat<s.size - (intOf (Value.int .i64 (i:Int))).toNat):=by show _<_;simp [intOf];omega
   clear hc1 hc2 HDi HOi HNi h20 hik hmb hmn hov hq hq2 ht htn hd hi' hm10 hn2 hm2 HI2
   go_wp2_with fail
   go_round
   case rel=>exact ⟨i',m2,n2,rfl,rfl,HM2.out,HK2.out,HI3.out⟩
   case measure=>exact HMS.out
 ·rw [if_neg (by decide)] at hst'
  subst hst'
  have t2:((0:Int)==(s.size:Int))=false:=by have:=HB1.out;simp;omega
  have t2'':decide (0=s.size)=false:=dF HB1.out
  clear hb1
  go_enter Tryz.func122,Tryz.ntmps122
  go_wp2_with fail
  go_loop [4,6] (fun a b=>∃(i m:Nat) (nn:Int),a= .int .i64 i∧b= .int .i64 nn∧Hid (nn= -(m:Int))∧Hid (i≤s.size)∧Hid (InI s.data.toList i m)) (fun a _=>s.size - (intOf a).toNat)
  case atStart=>exact ⟨0,0,0,rfl,rfl,rfl,by have:=HB1.out;have:=hp;show _≤_;omega,HI0.out⟩
  case round=>
   obtain ⟨i,m,nn,rfl,rfl,HM,HK,HI⟩:=hrel
   have h20:=H20.out
   have hik:=HK.out
   have hmb:=HBD.out i m HI.out
   have hmn:=HM.out
   by_cases hk:i<s.size
   case neg=>
      have T3:decide ((i:Int)<(s.size:Int))=false:=dF (by omega)
      have T3':decide (i<s.size)=false:=dF hk
      have he:i=s.size:=by omega
      by_cases h63:m=9223372036854775808
      ·have HR:Hid (RIntR s.data.toList 0 false):=HRET3.out i m HI.out he (by trivial) h63 0
       have T4:(nn== -9223372036854775808)=true:=by simp;omega
       have T4':decide (nn= -9223372036854775808)=true:=dT (by omega)
       clear h20 hik hmb hmn hk he h63
       go_wp2_with fail
       go_ret2
       exact ⟨0,false,HR.out,rfl,rfl⟩
      have T4:(nn== -9223372036854775808)=false:=by simp;omega
      have T4':decide (nn= -9223372036854775808)=false:=dF (by omega)
      obtain ⟨mm,hmm⟩:∃mm:Int,mm=(m:Int):=⟨_,rfl⟩
      have x9:IntKind.i64.wrap (0 - nn)=mm:=by rw [IntKind.wrap_i64];omega
      have x9':IntKind.i64.wrap (-nn)=mm:=by rw [IntKind.wrap_i64];omega
      have HR:Hid (RIntR s.data.toList mm (decide (Lib.itoa mm=s.data.toList))):=by
       show RIntR _ _ _
       rw [hmm];exact HRET2.out i m HI.out he (by trivial) h63
      have SD:Hid (∀w,Calls Tryz.prog 157 #[.int .i64 mm] w fun e w'=>e= .returned (.string ⟨(Lib.itoa mm).toArray⟩)∧w=w'):=fun w=>HDEC.out mm w (by omega) (by omega)
      have SE:=LH (HEQ.out mm)
      generalize (⟨(Lib.itoa mm).toArray⟩:ByteArray)=ds at SD SE
      clear h20 hik hmb hmn hk he h63 hmm
      go_wp2_with (first
       |(go_at_call 157
         with_reducible refine (SD.out _).mono ?_
         rintro e w5 ⟨rfl,rfl⟩))
      go_ret2
      exact ⟨mm,_,HR.out,by rw [←SE.out];rfl,rfl⟩
   have T3:decide ((i:Int)<(s.size:Int))=true:=dT (by omega)
   have T3':decide (i<s.size)=true:=dT hk
   have q0:(0:Int)≤(i:Int):=by omega
   have q1:(i:Int)<(s.size:Int):=by omega
   have HDi:=LH (HDG.out i m hk HI.out)
   have HOi:=LH (HOV.out i m hk HI.out)
   have HNi:=LH (HNX.out i m hk HI.out)
   obtain ⟨c,hc⟩:∃c:Nat,(s[i]'hk).toNat=c:=⟨_,rfl⟩
   rw [hc] at HDi HOi HNi
   by_cases hc1:c<48
   ·have T5:decide ((c:Int)<48)=true:=dT (by omega)
    have T5':decide (c<48)=true:=dT hc1
    have HR:=LH (HDi.out (.inl hc1) 0)
    clear hc1 HDi HOi HNi h20 hik hmb hmn
    go_wp2_with fail
    go_ret2
    exact ⟨0,false,HR.out,rfl,rfl⟩
   have T5:decide ((c:Int)<48)=false:=dF (by omega)
   have T5':decide (c<48)=false:=dF hc1
   by_cases hc2:57<c
   ·have T6:decide ((57:Int)<(c:Int))=true:=dT (by omega)
    have T6':decide (57<c)=true:=dT hc2
    have HR:=LH (HDi.out (.inr hc2) 0)
    clear hc1 hc2 HDi HOi HNi h20 hik hmb hmn
    go_wp2_with fail
    go_ret2
    exact ⟨0,false,HR.out,rfl,rfl⟩
   have T6:decide ((57:Int)<(c:Int))=false:=dF (by omega)
   have T6':decide (57<c)=false:=dF hc2
   obtain ⟨d,hd⟩:∃z,z=c - 48:=⟨_,rfl⟩
   rw [←hd] at HOi HNi
   have x4:IntKind.u8.wrap ((c:Int) - 48)=(d:Int):=by unfold IntKind.wrap;simp [IntKind.bits,IntKind.signed];omega
   have x5:IntKind.i64.wrap (d:Int)=(d:Int):=by rw [IntKind.wrap_i64];omega
   obtain ⟨t,ht⟩:∃t:Int,t= -9223372036854775808+(d:Int):=⟨_,rfl⟩
   have x6:IntKind.i64.wrap (-9223372036854775808+(d:Int))=t:=by rw [IntKind.wrap_i64];omega
   obtain ⟨q,hq⟩:∃q:Int,q=Int.tdiv t 10:=⟨_,rfl⟩
   have x7:Int.tdiv t 10=q:=hq.symm
   obtain ⟨tn,htn⟩:∃tn:Nat,t= -(tn:Int):=⟨t.natAbs,by omega⟩
   have hq2:q= -((tn / 10:Nat):Int):=by rw [hq,htn];exact tdiv_neg tn 10
   have x8:IntKind.i64.wrap q=q:=by rw [IntKind.wrap_i64];omega
   by_cases hov:nn<q
   ·have T7:decide (nn<q)=true:=dT hov
    have HR:=LH (HOi.out (by omega) 0)
    clear hc1 hc2 HDi HOi HNi h20 hik hmb hmn hov hq hq2 ht htn hd
    go_wp2_with fail
    go_ret2
    exact ⟨0,false,HR.out,rfl,rfl⟩
   have T7:decide (nn<q)=false:=dF hov
   have HI2:=HNi.out (by omega)
   obtain ⟨i',hi'⟩:∃z,z=i+1:=⟨_,rfl⟩
   obtain ⟨m10,hm10⟩:∃z:Int,z=10*nn:=⟨_,rfl⟩
   obtain ⟨n2,hn2⟩:∃z:Int,z=m10 - (d:Int):=⟨_,rfl⟩
   obtain ⟨m2,hm2⟩:∃z:Nat,z=10*m+d:=⟨_,rfl⟩
   have x1:IntKind.i64.wrap ((i:Int)+1)=(i':Int):=by rw [IntKind.wrap_i64];omega
   have x2:IntKind.i64.wrap (10*nn)=m10:=by rw [IntKind.wrap_i64];omega
   have x3:IntKind.i64.wrap (m10 - (d:Int))=n2:=by rw [IntKind.wrap_i64];omega
   rw [←hi',←hm2] at HI2
   have HI3:=LH HI2
   have HM2:Hid (n2= -(m2:Int)):=by show _=_;omega
   have HK2:Hid (i'≤s.size):=by show i'≤s.size;omega
   have HMS:Hid (s.size - (intOf (Value.int .i64 (i':Int))).toNat<s.size - (intOf (Value.int .i64 (i:Int))).toNat):=by show _<_;simp [intOf];omega
   clear hc1 hc2 HDi HOi HNi h20 hik hmb hmn hov hq hq2 ht htn hd hi' hm10 hn2 hm2 HI2
   go_wp2_with fail
   go_round
   case rel=>exact ⟨i',m2,n2,rfl,rfl,HM2.out,HK2.out,HI3.out⟩
   case measure=>exact HMS.out
def RCutPost (w:World) (l:List UInt8) (n:Nat) (e:Ending) (w':World):Prop:=
 ∃(R:List ByteArray) (r:ByteArray) (g cap:Nat),CutR l n R r∧e= .returned (.tuple #[.slice (some ⟨g,0,none⟩) R.length cap,.string r])∧StrAt w' g 0 R.length (fun k=>R.getD k ByteArray.empty)∧R.length≤cap∧r.size≤l.length∧w.heap.size≤g∧Below w.heap.size w w'
theorem zB6 {w w':World} {g o n:Nat} {X:Nat→ByteArray} (h:StrAt w g o n X) (hb:Below w.heap.size w w'):StrAt w' g o n X:=⟨Nat.lt_of_lt_of_le h.1 hb.size,fun k hk=>(hb.cell (p:=⟨g,o+k,none⟩) h.1).trans (h.2 k hk)⟩
theorem zK5 {w w7:World} {u:Value} {N:Nat} {R:List ByteArray} (h:RMem w w7 u (N+1) R) (hN:N+1=R.length):∃g cap,u= .slice (some ⟨g,0,none⟩) (N+1) cap∧StrAt w7 g 0 R.length (fun k=>R.getD k ByteArray.empty)∧R.length≤cap∧w.heap.size≤g∧Below w.heap.size w w7:=by
 rcases h.1.2 with ⟨hv,h0⟩|⟨g,cap,cur,hv,_,_,hnc,_⟩
 ·omega
 ·have hown:=h.1
  rw [hv,hN] at hown
  exact ⟨g,cap,hv,zF6 hown,by omega,(h.1.lt g (by rw [hv];rfl)).1,h.2⟩
set_option maxRecDepth 100000 in
set_option maxHeartbeats 4000000 in
theorem rcut (s:ByteArray) (hs:s.size≤300000) (n:Nat) (hn:1≤n) (hn6:n≤6) (w:World):Calls Tryz.prog 119 #[.string s,.int .i64 (n:Int)] w (RCutPost w s.data.toList n):=by
 obtain ⟨SI0,hi0,hz0,hz1,hz2⟩:=zA8 infoS
 have SI1:=LH hi0
 have SI2:=LH hz0
 have SI3:=LH hz1
 have SI4:=LH hz2
 have HSZ:=LH hs
 have hsl:s.size=s.data.toList.length:=rfl
 have HSL:=LH hsl
 have HN1:=LH hn
 have HN6:=LH hn6
 clear hi0 hz0 hz1 hz2 hs hsl hn hn6
 go_enter Tryz.func119,Tryz.ntmps119
 go_wp2_with fail
 go_loopw [6,7,8] (fun u v x wr=>∃(f i N:Nat) (R:List ByteArray) (wv:ByteArray),v= .string wv∧x= .int .i64 i∧Hid (wv=s.extract f i)∧Hid (N=R.length)∧Hid (N<n)∧Hid (CtI s.data.toList f i R)∧Hid (RMem w wr u N R)) (fun _ _ x _=>s.size+1 - (intOf x).toNat)
 case atStart=>exact ⟨0,0,0,[],⟨#[]⟩,rfl,rfl,(extract_none s 0).symm,rfl,HN1.out,CtI.start _,World.ownsRow_nil _ _ _ _,bR _ _⟩
 case round=>
  obtain ⟨f,i,N,R,wv,rfl,rfl,HWV,HN,HNn,HA,HM⟩:=hrel
  obtain ⟨A0,cap0,h8⟩:=HM.out.form
  subst h8
  have h1:=HA.out.fi
  have h2:=HA.out.le
  have h3:=HA.out.ln
  have h4:=HSL.out
  have h5:=HSZ.out
  have h6:=HN.out
  have h7:=HNn.out
  have h9:=HN6.out
  have HN300:Hid (N≤300):=by show _≤_;omega
  have hwz:wv.size≤s.size:=by
   rw [HWV.out]
   have:(s.extract f i).size=(s.extract f i).data.toList.length:=rfl
   rw [this,zC3,List.length_take,List.length_drop];omega
  by_cases hk:i<s.size
  case neg=>
   have T0:decide ((i:Int)<(s.size:Int))=false:=dF (by omega)
   have T0':decide (i<s.size)=false:=dF hk
   have HE:Hid (CutR s.data.toList n (R++[wv]) ⟨#[]⟩):=by
        rw [HWV.out]
        exact .all _ (HA.out.last (by omega)) (by rw [List.length_append,List.length_cons,List.length_nil];omega) (by simp)
   clear h1 h2 h3 h4 h5 h6 h7 h9 hk hwz
   go_wp2_with (first
        |(at_builtin;refine wpList_append_own_at _ ?q1_1 (.tmp 39) (.tmp 41) 41 ?q1_2 (w.heap.size) 9 SI0 (.string ByteArray.empty) 1 16 Tryz.underlying41 SI1.out SI2.out SI3.out SI4.out ?q1_3 ?q1_4 (.slice A0 N cap0) N (sc R) ?q1_5 (HM.out.1.alloc _) ⟨wr.heap.size,0,none⟩ 1 1 [.string wv] ?q1_7 (rfl) (World.news_of_block (cs:=#[.string wv]) (t:=9) (fr:=(0,0)) (heap_alloc_new _ _)) (by simp [Value.oneCell']) (h63_s HN300.out) (hby_s HN300.out) (nT HM.out.2.size (by simp)) ?q1_14
          case q1_1=>exact rfl
          case q1_2=>exact rfl
          case q1_3=>exact rfl
          case q1_4=>decide
          case q1_5=>exact rfl
          case q1_7=>exact rfl
          intro u2 w7 hown2 hgrow2 hnil2 hat2
          have HM7:=LH (HM.out.app hown2 hgrow2)
          clear hown2 hgrow2 hnil2 hat2))
   go_ret2
   obtain ⟨g,cap,hu,z1,z2,z3,z4⟩:=zK5 HM7.out (by rw [List.length_append,←HN.out];rfl)
   refine ⟨R++[wv],⟨#[]⟩,g,cap,HE.out,?_,z1,z2,Nat.zero_le _,z3,z4⟩
   rw [hu,List.length_append,←HN.out];rfl
  have T0:decide ((i:Int)<(s.size:Int))=true:=dT (by omega)
  have T0':decide (i<s.size)=true:=dT hk
  obtain ⟨i',hi'⟩:∃z,z=i+1:=⟨_,rfl⟩
  have x0:IntKind.i64.wrap ((i:Int)+1)=(i':Int):=by rw [IntKind.wrap_i64];omega
  have r0:(0:Int)≤(i:Int):=by omega
  have r1:(i:Int)<(s.size:Int):=by omega
  have r2:(i:Int)≤(i':Int):=by omega
  have r3:(i':Int)≤(s.size:Int):=by omega
  have r4:i≤i':=by omega
  have r5:i'≤s.size:=by omega
  have r6:(0:Int)≤(i':Int):=by omega
  have HMS:Hid (s.size+1 - (intOf (Value.int .i64 (i':Int))).toNat<s.size+1 - (intOf (Value.int .i64 (i:Int))).toNat):=by show _<_;simp [intOf];omega
  obtain ⟨d,hd⟩:∃d:Nat,(s[i]'hk).toNat=d:=⟨_,rfl⟩
  have hil:i<s.data.toList.length:=by omega
  have hgi:s.data.toList[i]=s[i]'hk:=rfl
  by_cases hdc:d=32
  ·have u1:((d:Int)!=32)=false:=by simp [hdc]
   have u2:decide (d=32)=true:=dT hdc
   have hc:s.data.toList[i]=32:=by
        rw [hgi]
        apply UInt8.toNat_inj.1
        rw [hd,hdc];rfl
   have hA':=HA.out.cut hil hc
   rw [←HWV.out,←hi'] at hA'
   have HA':=LH hA'
   have HLN:Hid (N+1=(R++[wv]).length):=by show _=_;rw [List.length_append,←HN.out];rfl
   by_cases hend:N+1=n
   ·have u3:(((N+1:Nat):Int)==(n:Int))=true:=by simp;omega
    have u3':(((N:Int)+1)==(n:Int))=true:=by simp;omega
    have HE:Hid (CutR s.data.toList n (R++[wv]) (s.extract i' s.size)):=by
     refine .part _ _ ?_ (by rw [←HLN.out];exact hend)
     have h10:=HA'.out.eq
     have e:(s.extract i' s.size).data.toList=s.data.toList.drop i':=by
      rw [zC3,List.take_of_length_le (by rw [List.length_drop];omega)]
     rw [e];exact h10
    have HRS:Hid ((s.extract i' s.size).size≤s.data.toList.length):=by
     show (s.extract i' s.size).data.toList.length≤_
     rw [zC3,List.length_take,List.length_drop];omega
    clear h1 h2 h3 h4 h5 h6 h7 h9 hgi hil hwz hc hA' hi' hend
    subst hdc
    go_upto_region 11 with (first
     |(at_builtin;refine wpList_append_own_at _ ?q2_1 (.tmp 26) (.tmp 28) 41 ?q2_2 (w.heap.size) 9 SI0 (.string ByteArray.empty) 1 16 Tryz.underlying41 SI1.out SI2.out SI3.out SI4.out ?q2_3 ?q2_4 (.slice A0 N cap0) N (sc R) ?q2_5 (HM.out.1.alloc _) ⟨wr.heap.size,0,none⟩ 1 1 [.string wv] ?q2_7 (rfl) (World.news_of_block (cs:=#[.string wv]) (t:=9) (fr:=(0,0)) (heap_alloc_new _ _)) (by simp [Value.oneCell']) (h63_s HN300.out) (hby_s HN300.out) (nT HM.out.2.size (by simp)) ?q2_14
       case q2_1=>exact rfl
       case q2_2=>exact rfl
       case q2_3=>exact rfl
       case q2_4=>decide
       case q2_5=>exact rfl
       case q2_7=>exact rfl
       intro u2 w7 hown2 hgrow2 hnil2 hat2
       have HM7:=LH (HM.out.app hown2 hgrow2)
       obtain ⟨g,cap,rfl,z1,z2,z3,z4⟩:=zK5 HM7.out HLN.out
       have HZ:=LH (And.intro z1 (And.intro z2 (And.intro z3 z4)))
       clear hown2 hgrow2 hnil2 hat2 z1 z2 z3 z4))
    go_quiet (fail)
    go_wp2_with fail
    go_ret2
    obtain ⟨z1,z2,z3,z4⟩:=HZ.out
    exact ⟨R++[wv],_,g,cap,HE.out,by rw [←HLN.out];rfl,zB6 z1 (zA7 (bR _ _) _),z2,HRS.out,z3,zA7 z4 _⟩
   ·have u3:(((N+1:Nat):Int)==(n:Int))=false:=by simp;omega
    have u3':(((N:Int)+1)==(n:Int))=false:=by simp;omega
    have HNn':Hid (N+1<n):=by show _<_;omega
    have HWE:Hid ((⟨#[]⟩:ByteArray)=s.extract i' i'):=(extract_none s i').symm
    clear h1 h2 h3 h4 h5 h6 h7 h9 hgi hil hwz hc hA' hi' hend
    subst hdc
    go_wp2_with (first
     |(at_builtin;refine wpList_append_own_at _ ?q3_1 (.tmp 26) (.tmp 28) 41 ?q3_2 (w.heap.size) 9 SI0 (.string ByteArray.empty) 1 16 Tryz.underlying41 SI1.out SI2.out SI3.out SI4.out ?q3_3 ?q3_4 (.slice A0 N cap0) N (sc R) ?q3_5 (HM.out.1.alloc _) ⟨wr.heap.size,0,none⟩ 1 1 [.string wv] ?q3_7 (rfl) (World.news_of_block (cs:=#[.string wv]) (t:=9) (fr:=(0,0)) (heap_alloc_new _ _)) (by simp [Value.oneCell']) (h63_s HN300.out) (hby_s HN300.out) (nT HM.out.2.size (by simp)) ?q3_14
       case q3_1=>exact rfl
       case q3_2=>exact rfl
       case q3_3=>exact rfl
       case q3_4=>decide
       case q3_5=>exact rfl
       case q3_7=>exact rfl
       intro u2 w7 hown2 hgrow2 hnil2 hat2
       have HM7:=LH (HM.out.app hown2 hgrow2)
       obtain ⟨g,cap,rfl,z1⟩:=zK5 HM7.out HLN.out
       clear hown2 hgrow2 hnil2 hat2 z1))
    go_roundw
    case rel=>exact ⟨i',i',N+1,R++[wv],⟨#[]⟩,rfl,rfl,HWE.out,HLN.out,HNn'.out,HA'.out,HM7.out⟩
    case measure=>exact HMS.out
  ·have u1:((d:Int)!=32)=true:=by simp;omega
   have u2:decide (d=32)=false:=dF hdc
   have HA':=LH (HA.out.other hil (by
        rw [hgi]
        intro e
        apply hdc
        rw [←hd,e];rfl))
   rw [←hi'] at HA'
   obtain ⟨ch,hch⟩:∃ch,s.extract i i'=ch:=⟨_,rfl⟩
   obtain ⟨wn,hwn⟩:∃wn,wv++ch=wn:=⟨_,rfl⟩
   have HWN:Hid (wn=s.extract f i'):=by
        show _=_
        rw [←hwn,←hch,HWV.out,hi']
        exact extract_snoc s h1 hk
   have hz1:((wv.size:Nat):Int)≤8388608:=by omega
   have hcs:ch.size≤1:=by
        rw [←hch]
        show (s.extract i i').data.toList.length≤1
        rw [zC3,List.length_take];omega
   have hz2:¬9223372036854775807<wv.size+ch.size:=by omega
   clear h1 h2 h3 h4 h5 h6 h7 h9 hi' hgi hil hdc hwz hcs
   go_wp2_with fail
   go_roundw
   case rel=>exact ⟨f,i',N,R,wn,rfl,rfl,HWN.out,HN.out,HNn.out,HA'.out,HM.out⟩
   case measure=>exact HMS.out
def rd:Nat→List UInt8→Nat→Nat×Nat
 |0,_,n=>(n,0)
 |_+1,[],n=>(n,0)
 |f+1,c::r,n=>if c.toNat<48∨57<c.toNat then (n,0) else ((rd f r (10*n+(c.toNat - 48))).1,(rd f r (10*n+(c.toNat - 48))).2+1)
def NoDig (r:List UInt8):Prop:=∀c r',r=c::r'→c.toNat<48∨57<c.toNat
theorem rd_stop {r:List UInt8} (h:NoDig r) (f n:Nat):rd f r n=(n,0):=by
 cases f with
 |zero=>rfl
 |succ f=>
  cases r with
  |nil=>rfl
  |cons c r=>simp only [rd,if_pos (h c r rfl)]
def val:List UInt8→Nat→Nat
 |[],n=>n
 |c::r,n=>val r (10*n+(c.toNat - 48))
theorem val_snoc (l:List UInt8) (c:UInt8):∀n,val (l++[c]) n=10*val l n+(c.toNat - 48):=by
 induction l with
 |nil=>intro n;rfl
 |cons a l ih=>intro n;exact ih _
theorem val_dec:∀u:Nat,val (Lib.decDigits u) 0=u:=by
 intro u
 induction u using Nat.strongRecOn with
 |_ u ih=>
  by_cases hu:u<10
  ·rw [Lib.decDigits_one hu]
   simp only [val,zC7 hu]
   omega
  ·rw [Lib.decDigits,dif_neg hu,val_snoc,ih (u / 10) (by omega),zC7 (by omega:u % 10<10)]
   omega
theorem rd_run (r:List UInt8):∀(l:List UInt8) (f n:Nat),(∀c,c∈l→48≤c.toNat∧c.toNat≤57)→l.length≤f→rd f (l++r) n=((rd (f - l.length) r (val l n)).1,(rd (f - l.length) r (val l n)).2+l.length):=by
 intro l
 induction l with
 |nil=>intro f n _ _;simp [val]
 |cons c l ih=>
  intro f n hd hl
  obtain ⟨g,rfl⟩:∃g,f=g+1:=⟨f - 1,by simp at hl;omega⟩
  have hc:=hd c (by simp)
  simp only [List.cons_append,rd,if_neg (show¬(c.toNat<48∨57<c.toNat) by omega)]
  rw [ih g _ (fun x hx=>hd x (by simp [hx])) (by simp at hl;omega)]
  simp [val]
  omega
theorem rd_dec {r:List UInt8} (h:NoDig r) {u:Nat} (hu:u<1000000000000000000):rd 18 (Lib.decDigits u++r) 0=(u,(Lib.decDigits u).length):=by
 rw [rd_run r _ 18 0 (fun c hc=>dec_byte u c hc) (by rw [Lib.decDigits_length];exact zD1 18 u (by decide) (by rw [pow18];exact hu)),rd_stop h,val_dec]
 simp
theorem rd_bound:∀(f:Nat) (l:List UInt8) (n t:Nat),n<10 ^ t→(rd f l n).1<10 ^ (t+f)∧(rd f l n).2≤f∧(rd f l n).2≤l.length:=by
 intro f
 induction f with
 |zero=>intro l n t h;exact ⟨h,nl _,Nat.zero_le _⟩
 |succ f ih=>
  intro l n t h
  cases l with
  |nil=>exact ⟨Nat.lt_of_lt_of_le h (Nat.pow_le_pow_right (by decide) (by omega)),Nat.zero_le _,Nat.zero_le _⟩
  |cons c r=>
   simp only [rd]
   by_cases hc:c.toNat<48∨57<c.toNat
   ·rw [if_pos hc]
    exact ⟨Nat.lt_of_lt_of_le h (Nat.pow_le_pow_right (by decide) (by omega)),Nat.zero_le _,Nat.zero_le _⟩
   ·rw [if_neg hc]
    have:=ih r (10*n+(c.toNat - 48)) (t+1) (by rw [Nat.pow_succ];omega)
    refine ⟨?_,by omega,by simp;omega⟩
    rw [show t+(f+1)=t+1+f from by omega]
    exact this.1
def DgI (T:List UInt8) (first V J k n:Nat):Prop:=∃t,t≤18∧k=first+t∧n<10 ^ t∧k≤J∧rd (18 - t) (T.drop k) n=(V,J - k)
theorem zK9 (s:ByteArray) (k:Nat) (h:k<s.size):s.data.toList.drop k=s[k]::s.data.toList.drop (k+1):=by
 have hl:k<s.data.toList.length:=by rw [←zC6];exact h
 rw [List.drop_eq_getElem_cons hl]
 congr 1
theorem DgI.end_ {T:List UInt8} {first V J k n:Nat} (h:DgI T first V J k n) (he:T.length≤k):n=V∧k=J:=by
 obtain ⟨t,h1,h2,h3,h4,h5⟩:=h
 rw [List.drop_of_length_le he,rd_stop (fun c r e=>by cases e)] at h5
 have:=congrArg Prod.fst h5
 have:=congrArg Prod.snd h5
 simp at*
 omega
theorem DgI.full {T:List UInt8} {first V J k n:Nat} (h:DgI T first V J k n) (he:¬k<first+18):n=V∧k=J:=by
 obtain ⟨t,h1,h2,h3,h4,h5⟩:=h
 have:t=18:=by omega
 subst this
 have e1:=congrArg Prod.fst h5
 have e2:=congrArg Prod.snd h5
 simp [rd] at e1 e2
 omega
theorem DgI.other {s:ByteArray} {first V J k n:Nat} (h:DgI s.data.toList first V J k n) (hk:k<s.size) (hc:(s[k]).toNat<48∨57<(s[k]).toNat):n=V∧k=J:=by
 obtain ⟨t,h1,h2,h3,h4,h5⟩:=h
 rw [zK9 s k hk,rd_stop (fun c r e=>by cases e;exact hc)] at h5
 have e1:=congrArg Prod.fst h5
 have e2:=congrArg Prod.snd h5
 simp at e1 e2
 omega
theorem DgI.next {s:ByteArray} {first V J k n:Nat} (h:DgI s.data.toList first V J k n) (hk:k<s.size) (hf:k<first+18) (hc:¬((s[k]).toNat<48∨57<(s[k]).toNat)):DgI s.data.toList first V J (k+1) (10*n+((s[k]).toNat - 48))∧n<100000000000000000:=by
 obtain ⟨t,h1,h2,h3,h4,h5⟩:=h
 have hp:(10:Nat) ^ t≤10 ^ 17:=Nat.pow_le_pow_right (by decide) (by omega)
 have h17:(10:Nat) ^ 17=100000000000000000:=by decide
 obtain ⟨f,hf'⟩:∃f,18 - t=f+1:=⟨17 - t,by omega⟩
 rw [zK9 s k hk,hf'] at h5
 simp only [rd,if_neg hc] at h5
 have e1:=congrArg Prod.fst h5
 have e2:=congrArg Prod.snd h5
 simp at e1 e2
 refine ⟨⟨t+1,by omega,by omega,by rw [Nat.pow_succ];omega,by omega,?_⟩,by omega⟩
 rw [show 18 - (t+1)=f from by omega]
 exact Prod.ext e1 (by show _=J - (k+1);omega)
theorem DgI.small {T:List UInt8} {first V J k n:Nat} (h:DgI T first V J k n):n<1000000000000000000:=by
 obtain ⟨t,h1,h2,h3,h4,h5⟩:=h
 have:=Nat.pow_le_pow_right (n:=10) (by decide) h1
 rw [pow18] at this
 omega
theorem pow18':(10:Nat) ^ (0+18)=1000000000000000000:=by decide
set_option maxRecDepth 100000 in
set_option maxHeartbeats 4000000 in
theorem rnumT0 (s:ByteArray) (hs:s.size≤100000) (i:Nat) (hi:i≤s.size) (ng:Bool) (first V J:Nat) (hng:ng=true→∃h:i<s.size,s[i]=45) (hng':ng=false→∀h:i<s.size,s[i]≠45)
 (hf:first=if ng=true then i+1 else i) (h0:DgI s.data.toList first V J first 0) (hfs:first≤s.size) (w:World):
 Calls Tryz.prog 158 #[.string s,.int .i64 (i:Int)] w fun e w'=>e= .returned (.tuple #[.int .i64 (if ng=true then -(V:Int) else (V:Int)),.int .i64 (J:Int)])∧w=w':=by
 have HS:=LH hs
 have HD:=LH h0
 have HFS:=LH hfs
 cases ng with
 |true=>
  obtain ⟨hlt,h45⟩:=hng rfl
  have T0:decide ((i:Int)<(s.size:Int))=true:=dT (by omega)
  have T0':decide (i<s.size)=true:=dT hlt
  have k0:(0:Int)≤(i:Int):=by omega
  have k1:(i:Int)<(s.size:Int):=by omega
  obtain ⟨c,hc⟩:∃c:Nat,(s[i]'hlt).toNat=c:=⟨_,rfl⟩
  have u1:((c:Int)==45)=true:=by rw [←hc,h45];decide
  have u2:decide (c=45)=true:=by rw [←hc,h45];decide
  rw [if_pos rfl] at hf
  have x0:IntKind.i64.wrap ((i:Int)+1)=(first:Int):=by rw [IntKind.wrap_i64];omega
  rw [if_pos rfl]
  clear hng hng' hf h0 hfs hs h45
  go_enter Tryz.func158,Tryz.ntmps158
  go_wp2_with fail
  go_loop [7,9] (fun a b=>∃k n:Nat,a= .int .i64 k∧b= .int .i64 n∧Hid (k≤s.size)∧Hid (DgI s.data.toList first V J k n)) (fun a _=>s.size - (intOf a).toNat)
  case atStart=>exact ⟨first,0,rfl,rfl,HFS.out,HD.out⟩
  case round=>
   obtain ⟨k,n,rfl,rfl,HK,HI⟩:=hrel
   have hn18:=HI.out.small
   have hk100:k≤100000:=nT HK.out HS.out
   by_cases hk:k<s.size
   case neg=>
        have hV:=HI.out.end_ (by rw [←zC6];omega)
        have T3:decide ((k:Int)<(s.size:Int))=false:=dF (by omega)
        have T3':decide (k<s.size)=false:=dF hk
        clear hk
        have HV:=LH hV.1
        have HJ:=LH hV.2
        have x9:IntKind.i64.wrap (0 - (n:Int))= -(n:Int):=by rw [IntKind.wrap_i64];omega
        have x9':IntKind.i64.wrap (-(n:Int))= -(n:Int):=by rw [IntKind.wrap_i64];omega
        clear hV hn18 hk100
        go_wp2_with fail
        go_ret2
        exact ⟨by rw [HV.out,HJ.out];rfl,rfl⟩
   have T3:decide ((k:Int)<(s.size:Int))=true:=dT (by omega)
   have T3':decide (k<s.size)=true:=dT hk
   have q0:(0:Int)≤(k:Int):=by omega
   have q1:(k:Int)<(s.size:Int):=by omega
   obtain ⟨f18,hf18⟩:∃z,z=first+18:=⟨_,rfl⟩
   have x1:IntKind.i64.wrap ((first:Int)+18)=(f18:Int):=by have:=HFS.out;have:=HS.out;rw [IntKind.wrap_i64];omega
   by_cases hf:k<f18
   case neg=>
        have hV:=HI.out.full (by omega)
        have T4:decide ((k:Int)<(f18:Int))=false:=dF (by omega)
        have T4':decide (k<f18)=false:=dF hf
        clear hf hf18
        have HV:=LH hV.1
        have HJ:=LH hV.2
        have x9:IntKind.i64.wrap (0 - (n:Int))= -(n:Int):=by rw [IntKind.wrap_i64];omega
        have x9':IntKind.i64.wrap (-(n:Int))= -(n:Int):=by rw [IntKind.wrap_i64];omega
        clear hV hn18 hk100
        go_wp2_with fail
        go_ret2
        exact ⟨by rw [HV.out,HJ.out];rfl,rfl⟩
   have T4:decide ((k:Int)<(f18:Int))=true:=dT (by omega)
   have T4':decide (k<f18)=true:=dT hf
   have HN:=LH fun h=>HI.out.next hk (by omega) h
   have HO:=LH fun h=>HI.out.other hk h
   obtain ⟨c,hc⟩:∃c:Nat,(s[k]'hk).toNat=c:=⟨_,rfl⟩
   rw [hc] at HN HO
   by_cases hc1:c<48
   ·have hV:=HO.out (.inl hc1)
    have T5:decide ((48:Int)≤(c:Int))=false:=dF (by omega)
    have T5':decide (48≤c)=false:=dF (by omega)
    clear hc1 hf hf18 HN HO
    have HV:=LH hV.1
    have HJ:=LH hV.2
    have x9:IntKind.i64.wrap (0 - (n:Int))= -(n:Int):=by rw [IntKind.wrap_i64];omega
    have x9':IntKind.i64.wrap (-(n:Int))= -(n:Int):=by rw [IntKind.wrap_i64];omega
    clear hV hn18 hk100
    go_wp2_with fail
    go_ret2
    exact ⟨by rw [HV.out,HJ.out];rfl,rfl⟩
   have T5:decide ((48:Int)≤(c:Int))=true:=dT (by omega)
   have T5':decide (48≤c)=true:=dT (by omega)
   by_cases hc2:57<c
   ·have hV:=HO.out (.inr hc2)
    have T6:decide ((c:Int)≤57)=false:=dF (by omega)
    have T6':decide (c≤57)=false:=dF (by omega)
    clear hc1 hc2 hf hf18 HN HO
    have HV:=LH hV.1
    have HJ:=LH hV.2
    have x9:IntKind.i64.wrap (0 - (n:Int))= -(n:Int):=by rw [IntKind.wrap_i64];omega
    have x9':IntKind.i64.wrap (-(n:Int))= -(n:Int):=by rw [IntKind.wrap_i64];omega
    clear hV hn18 hk100
    go_wp2_with fail
    go_ret2
    exact ⟨by rw [HV.out,HJ.out];rfl,rfl⟩
   have T6:decide ((c:Int)≤57)=true:=dT (by omega)
   have T6':decide (c≤57)=true:=dT (by omega)
   obtain ⟨hd,hn⟩:=HN.out (by omega)
   obtain ⟨k',hk'⟩:∃z,z=k+1:=⟨_,rfl⟩
   obtain ⟨d,hd'⟩:∃z,z=c - 48:=⟨_,rfl⟩
   obtain ⟨m,hm⟩:∃z,z=10*n:=⟨_,rfl⟩
   obtain ⟨n',hn'⟩:∃z,z=m+d:=⟨_,rfl⟩
   have x2:IntKind.i64.wrap ((k:Int)+1)=(k':Int):=by rw [IntKind.wrap_i64];omega
   have x3:IntKind.i64.wrap (10*(n:Int))=(m:Int):=by rw [IntKind.wrap_i64];omega
   have x4:IntKind.u8.wrap ((c:Int) - 48)=(d:Int):=by unfold IntKind.wrap;simp [IntKind.bits,IntKind.signed];omega
   have x5:IntKind.i64.wrap (d:Int)=(d:Int):=by rw [IntKind.wrap_i64];omega
   have x6:IntKind.i64.wrap ((m:Int)+(d:Int))=(n':Int):=by rw [IntKind.wrap_i64];omega
   have HI2:Hid (DgI s.data.toList first V J k' n'):=by
        show DgI _ _ _ _ _ _
        rw [hk',hn',hm,hd']
        exact hd
   have HK2:Hid (k'≤s.size):=by show k'≤s.size;omega
   have HMS:Hid (s.size - (intOf (Value.int .i64 (k':Int))).toNat<s.size - (intOf (Value.int .i64 (k:Int))).toNat):=by show _<_;simp [intOf];omega
   clear hd hn hk' hd' hm hn' hc1 hc2 hf hf18 HN HO hn18 hk100
   go_wp2_with fail
   go_round
   case rel=>exact ⟨k',n',rfl,rfl,HK2.out,HI2.out⟩
   case measure=>exact HMS.out
 |false=>
  rw [if_neg (by decide)] at hf
  rw [if_neg (by decide)]
  subst hf
  by_cases hlt:first<s.size
  ·have h45:=hng' rfl hlt
   have T0:decide ((first:Int)<(s.size:Int))=true:=dT (by omega)
   have T0':decide (first<s.size)=true:=dT hlt
   have k0:(0:Int)≤(first:Int):=by omega
   have k1:(first:Int)<(s.size:Int):=by omega
   obtain ⟨c0,hc0⟩:∃c:Nat,(s[first]'hlt).toNat=c:=⟨_,rfl⟩
   have hne:c0≠45:=fun e=>h45 (UInt8.toNat_inj.1 (by rw [hc0,e];rfl))
   have u1:((c0:Int)==45)=false:=by simp<;> omega
   have u2:decide (c0=45)=false:=dF hne
   clear hng hng' h0 hfs hs h45 hne hi
   go_enter Tryz.func158,Tryz.ntmps158
   go_wp2_with fail
   go_loop [7,9] (fun a b=>∃k n:Nat,a= .int .i64 k∧b= .int .i64 n∧Hid (k≤s.size)∧Hid (DgI s.data.toList first V J k n)) (fun a _=>s.size - (intOf a).toNat)
   case atStart=>exact ⟨first,0,rfl,rfl,HFS.out,HD.out⟩
   case round=>
        obtain ⟨k,n,rfl,rfl,HK,HI⟩:=hrel
        have hn18:=HI.out.small
        have hk100:k≤100000:=nT HK.out HS.out
        by_cases hk:k<s.size
        case neg=>
         have hV:=HI.out.end_ (by rw [←zC6];omega)
         have T3:decide ((k:Int)<(s.size:Int))=false:=dF (by omega)
         have T3':decide (k<s.size)=false:=dF hk
         clear hk
         have HV:=LH hV.1
         have HJ:=LH hV.2
         clear hV hn18 hk100
         go_wp2_with fail
         go_ret2
         exact ⟨by rw [HV.out,HJ.out];rfl,rfl⟩
        have T3:decide ((k:Int)<(s.size:Int))=true:=dT (by omega)
        have T3':decide (k<s.size)=true:=dT hk
        have q0:(0:Int)≤(k:Int):=by omega
        have q1:(k:Int)<(s.size:Int):=by omega
        obtain ⟨f18,hf18⟩:∃z,z=first+18:=⟨_,rfl⟩
        have x1:IntKind.i64.wrap ((first:Int)+18)=(f18:Int):=by have:=HFS.out;have:=HS.out;rw [IntKind.wrap_i64];omega
        by_cases hf:k<f18
        case neg=>
         have hV:=HI.out.full (by omega)
         have T4:decide ((k:Int)<(f18:Int))=false:=dF (by omega)
         have T4':decide (k<f18)=false:=dF hf
         clear hf hf18
         have HV:=LH hV.1
         have HJ:=LH hV.2
         clear hV hn18 hk100
         go_wp2_with fail
         go_ret2
         exact ⟨by rw [HV.out,HJ.out];rfl,rfl⟩
        have T4:decide ((k:Int)<(f18:Int))=true:=dT (by omega)
        have T4':decide (k<f18)=true:=dT hf
        have HN:=LH fun h=>HI.out.next hk (by omega) h
        have HO:=LH fun h=>HI.out.other hk h
        obtain ⟨c,hc⟩:∃c:Nat,(s[k]'hk).toNat=c:=⟨_,rfl⟩
        rw [hc] at HN HO
        by_cases hc1:c<48
        ·have hV:=HO.out (.inl hc1)
         have T5:decide ((48:Int)≤(c:Int))=false:=dF (by omega)
         have T5':decide (48≤c)=false:=dF (by omega)
         clear hc1 hf hf18 HN HO
         have HV:=LH hV.1
         have HJ:=LH hV.2
         clear hV hn18 hk100
         go_wp2_with fail
         go_ret2
         exact ⟨by rw [HV.out,HJ.out];rfl,rfl⟩
        have T5:decide ((48:Int)≤(c:Int))=true:=dT (by omega)
        have T5':decide (48≤c)=true:=dT (by omega)
        by_cases hc2:57<c
        ·have hV:=HO.out (.inr hc2)
         have T6:decide ((c:Int)≤57)=false:=dF (by omega)
         have T6':decide (c≤57)=false:=dF (by omega)
         clear hc1 hc2 hf hf18 HN HO
         have HV:=LH hV.1
         have HJ:=LH hV.2
         clear hV hn18 hk100
         go_wp2_with fail
         go_ret2
         exact ⟨by rw [HV.out,HJ.out];rfl,rfl⟩
        have T6:decide ((c:Int)≤57)=true:=dT (by omega)
        have T6':decide (c≤57)=true:=dT (by omega)
        obtain ⟨hd,hn⟩:=HN.out (by omega)
        obtain ⟨k',hk'⟩:∃z,z=k+1:=⟨_,rfl⟩
        obtain ⟨d,hd'⟩:∃z,z=c - 48:=⟨_,rfl⟩
        obtain ⟨m,hm⟩:∃z,z=10*n:=⟨_,rfl⟩
        obtain ⟨n',hn'⟩:∃z,z=m+d:=⟨_,rfl⟩
        have x2:IntKind.i64.wrap ((k:Int)+1)=(k':Int):=by rw [IntKind.wrap_i64];omega
        have x3:IntKind.i64.wrap (10*(n:Int))=(m:Int):=by rw [IntKind.wrap_i64];omega
        have x4:IntKind.u8.wrap ((c:Int) - 48)=(d:Int):=by unfold IntKind.wrap;simp [IntKind.bits,IntKind.signed];omega
        have x5:IntKind.i64.wrap (d:Int)=(d:Int):=by rw [IntKind.wrap_i64];omega
        have x6:IntKind.i64.wrap ((m:Int)+(d:Int))=(n':Int):=by rw [IntKind.wrap_i64];omega
        have HI2:Hid (DgI s.data.toList first V J k' n'):=by
         show DgI _ _ _ _ _ _
         rw [hk',hn',hm,hd']
         exact hd
        have HK2:Hid (k'≤s.size):=by show k'≤s.size;omega
        have HMS:Hid (s.size - (intOf (Value.int .i64 (k':Int))).toNat<s.size - (intOf (Value.int .i64 (k:Int))).toNat):=by show _<_;simp [intOf];omega
        clear hd hn hk' hd' hm hn' hc1 hc2 hf hf18 HN HO hn18 hk100
        go_wp2_with fail
        go_round
        case rel=>exact ⟨k',n',rfl,rfl,HK2.out,HI2.out⟩
        case measure=>exact HMS.out
  ·have T0:decide ((first:Int)<(s.size:Int))=false:=dF (by omega)
   have T0':decide (first<s.size)=false:=dF hlt
   clear hng hng' h0 hfs hs hi hlt
   go_enter Tryz.func158,Tryz.ntmps158
   go_wp2_with fail
   go_loop [7,9] (fun a b=>∃k n:Nat,a= .int .i64 k∧b= .int .i64 n∧Hid (k≤s.size)∧Hid (DgI s.data.toList first V J k n)) (fun a _=>s.size - (intOf a).toNat)
   case atStart=>exact ⟨first,0,rfl,rfl,HFS.out,HD.out⟩
   case round=>
        obtain ⟨k,n,rfl,rfl,HK,HI⟩:=hrel
        have hn18:=HI.out.small
        have hk100:k≤100000:=nT HK.out HS.out
        by_cases hk:k<s.size
        case neg=>
         have hV:=HI.out.end_ (by rw [←zC6];omega)
         have T3:decide ((k:Int)<(s.size:Int))=false:=dF (by omega)
         have T3':decide (k<s.size)=false:=dF hk
         clear hk
         have HV:=LH hV.1
         have HJ:=LH hV.2
         clear hV hn18 hk100
         go_wp2_with fail
         go_ret2
         exact ⟨by rw [HV.out,HJ.out];rfl,rfl⟩
        have T3:decide ((k:Int)<(s.size:Int))=true:=dT (by omega)
        have T3':decide (k<s.size)=true:=dT hk
        have q0:(0:Int)≤(k:Int):=by omega
        have q1:(k:Int)<(s.size:Int):=by omega
        obtain ⟨f18,hf18⟩:∃z,z=first+18:=⟨_,rfl⟩
        have x1:IntKind.i64.wrap ((first:Int)+18)=(f18:Int):=by have:=HFS.out;have:=HS.out;rw [IntKind.wrap_i64];omega
        by_cases hf:k<f18
        case neg=>
         have hV:=HI.out.full (by omega)
         have T4:decide ((k:Int)<(f18:Int))=false:=dF (by omega)
         have T4':decide (k<f18)=false:=dF hf
         clear hf hf18
         have HV:=LH hV.1
         have HJ:=LH hV.2
         clear hV hn18 hk100
         go_wp2_with fail
         go_ret2
         exact ⟨by rw [HV.out,HJ.out];rfl,rfl⟩
        have T4:decide ((k:Int)<(f18:Int))=true:=dT (by omega)
        have T4':decide (k<f18)=true:=dT hf
        have HN:=LH fun h=>HI.out.next hk (by omega) h
        have HO:=LH fun h=>HI.out.other hk h
        obtain ⟨c,hc⟩:∃c:Nat,(s[k]'hk).toNat=c:=⟨_,rfl⟩
        rw [hc] at HN HO
        by_cases hc1:c<48
        ·have hV:=HO.out (.inl hc1)
         have T5:decide ((48:Int)≤(c:Int))=false:=dF (by omega)
         have T5':decide (48≤c)=false:=dF (by omega)
         clear hc1 hf hf18 HN HO
         have HV:=LH hV.1
         have HJ:=LH hV.2
         clear hV hn18 hk100
         go_wp2_with fail
         go_ret2
         exact ⟨by rw [HV.out,HJ.out];rfl,rfl⟩
        have T5:decide ((48:Int)≤(c:Int))=true:=dT (by omega)
        have T5':decide (48≤c)=true:=dT (by omega)
        by_cases hc2:57<c
        ·have hV:=HO.out (.inr hc2)
         have T6:decide ((c:Int)≤57)=false:=dF (by omega)
         have T6':decide (c≤57)=false:=dF (by omega)
         clear hc1 hc2 hf hf18 HN HO
         have HV:=LH hV.1
         have HJ:=LH hV.2
         clear hV hn18 hk100
         go_wp2_with fail
         go_ret2
         exact ⟨by rw [HV.out,HJ.out];rfl,rfl⟩
        have T6:decide ((c:Int)≤57)=true:=dT (by omega)
        have T6':decide (c≤57)=true:=dT (by omega)
        obtain ⟨hd,hn⟩:=HN.out (by omega)
        obtain ⟨k',hk'⟩:∃z,z=k+1:=⟨_,rfl⟩
        obtain ⟨d,hd'⟩:∃z,z=c - 48:=⟨_,rfl⟩
        obtain ⟨m,hm⟩:∃z,z=10*n:=⟨_,rfl⟩
        obtain ⟨n',hn'⟩:∃z,z=m+d:=⟨_,rfl⟩
        have x2:IntKind.i64.wrap ((k:Int)+1)=(k':Int):=by rw [IntKind.wrap_i64];omega
        have x3:IntKind.i64.wrap (10*(n:Int))=(m:Int):=by rw [IntKind.wrap_i64];omega
        have x4:IntKind.u8.wrap ((c:Int) - 48)=(d:Int):=by unfold IntKind.wrap;simp [IntKind.bits,IntKind.signed];omega
        have x5:IntKind.i64.wrap (d:Int)=(d:Int):=by rw [IntKind.wrap_i64];omega
        have x6:IntKind.i64.wrap ((m:Int)+(d:Int))=(n':Int):=by rw [IntKind.wrap_i64];omega
        have HI2:Hid (DgI s.data.toList first V J k' n'):=by
         show DgI _ _ _ _ _ _
         rw [hk',hn',hm,hd']
         exact hd
        have HK2:Hid (k'≤s.size):=by show k'≤s.size;omega
        have HMS:Hid (s.size - (intOf (Value.int .i64 (k':Int))).toNat<s.size - (intOf (Value.int .i64 (k:Int))).toNat):=by show _<_;simp [intOf];omega
        clear hd hn hk' hd' hm hn' hc1 hc2 hf hf18 HN HO hn18 hk100
        go_wp2_with fail
        go_round
        case rel=>exact ⟨k',n',rfl,rfl,HK2.out,HI2.out⟩
        case measure=>exact HMS.out
theorem rnumT (s:ByteArray) (hs:s.size≤100000) (i:Nat) (hi:i≤s.size):∃(v:Int) (j:Nat),i≤j∧j≤s.size∧(∀x r,s.data.toList.drop i=Lib.itoa x++r→near x→NoDig r→v=x∧j=i+(Lib.itoa x).length)∧near v∧
 ∀w,Calls Tryz.prog 158 #[.string s,.int .i64 (i:Int)] w fun e w'=>e= .returned (.tuple #[.int .i64 v,.int .i64 (j:Int)])∧w=w':=by
 obtain ⟨ng,hng⟩:∃ng:Bool,ng=true↔∃h:i<s.size,s[i]=45:=by
  by_cases h:∃h:i<s.size,s[i]=45
  ·exact ⟨true,by simp [h]⟩
  ·exact ⟨false,by simp [h]⟩
 have hng1:ng=true→∃h:i<s.size,s[i]=45:=hng.1
 have hng2:ng=false→∀h:i<s.size,s[i]≠45:=fun h1 h2 h3=>by rw [hng.2 ⟨h2,h3⟩] at h1;cases h1
 obtain ⟨first,hf⟩:∃f,f=if ng=true then i+1 else i:=⟨_,rfl⟩
 have hfs:i≤first∧first≤s.size:=by
  rw [hf]
  by_cases h:ng=true
  ·rw [if_pos h];obtain ⟨h1,_⟩:=hng1 h;omega
  ·rw [if_neg h];omega
 obtain ⟨p,hp⟩:∃p,p=rd 18 (s.data.toList.drop first) 0:=⟨_,rfl⟩
 have hb:=rd_bound 18 (s.data.toList.drop first) 0 0 (by decide)
 rw [←hp,pow18',List.length_drop,←zC6] at hb
 have hD:DgI s.data.toList first p.1 (first+p.2) first 0:=⟨0,by omega,rfl,by decide,by omega,by rw [Nat.sub_zero,←hp,show first+p.2 - first=p.2 from by omega]⟩
 refine ⟨if ng=true then -(p.1:Int) else (p.1:Int),first+p.2,by omega,by omega,fun x r hx hn hr=>?_,?_,fun w=>rnumT0 s hs i hi ng first p.1 (first+p.2) hng1 hng2 hf hD hfs.2 w⟩
 ·have h1:=hn.1
  have h2:=hn.2
  by_cases hv:x<0
  ·rw [zG0 hv] at hx⊢
   have hlt:i<s.size:=by
        rcases Nat.lt_or_ge i s.size with h |h
        ·exact h
        ·rw [List.drop_of_length_le (by rw [←zC6];exact h)] at hx;simp at hx
   rw [zK9 s i hlt] at hx
   simp only [List.cons_append,List.cons.injEq] at hx
   have ht:=hng.2 ⟨hlt,hx.1⟩
   rw [if_pos ht] at hf⊢
   rw [hf,hx.2,rd_dec hr (by omega)] at hp
   rw [hp,hf]
   simp
   omega
  ·rw [zE7 hv] at hx⊢
   have hnf:ng≠true:=fun h=>by
        obtain ⟨h3,h4⟩:=hng1 h
        rw [zK9 s i h3,h4] at hx
        obtain ⟨c,r',e,hc1,hc2⟩:=zI2 (u:=x.toNat)
        rw [e] at hx
        simp at hx
        have:=hx.1
        rw [←this] at hc1
        revert hc1;decide
   rw [if_neg hnf] at hf⊢
   rw [hf,hx,rd_dec hr (by omega)] at hp
   rw [hp,hf]
   simp
   omega
 ·have:=hb.1
  unfold near
  split<;> omega
def txS (X Y:Nat→Int):Nat→Nat→List UInt8
 |_,0=>[]
 |m,1=>ktx (X m) (Y m)
 |m,c+2=>ktx (X m) (Y m)++32::txS X Y (m+1) (c+1)
theorem txS_join (X Y:Nat→Int):∀(c m:Nat),0<m→txL X Y m++32::txS X Y m (c+1)=txL X Y (m+(c+1))
 |0,m,h=>by
  show txL X Y m++32::ktx (X m) (Y m)=(if 0<m then txL X Y m++[32] else txL X Y m)++ktx (X m) (Y m)
  rw [if_pos h];simp
 |c+1,m,h=>by
  have e:=txS_join X Y c (m+1) (by omega)
  rw [show m+(c+1+1)=m+1+(c+1) from by omega,←e]
  show txL X Y m++32::(ktx (X m) (Y m)++32::txS X Y (m+1) (c+1))=((if 0<m then txL X Y m++[32] else txL X Y m)++ktx (X m) (Y m))++32::txS X Y (m+1) (c+1)
  rw [if_pos h];simp
theorem txS_all (X Y:Nat→Int):∀n,txL X Y n=txS X Y 0 n
 |0=>rfl
 |1=>rfl
 |n+2=>by
  have e:=txS_join X Y n 1 (by omega)
  rw [show n+2=1+(n+1) from by omega,←e]
  rw [show 1+(n+1)=n+2 from by omega]
  show (([]:List UInt8)++ktx (X 0) (Y 0))++32::txS X Y 1 (n+1)=ktx (X 0) (Y 0)++32::txS X Y 1 (n+1)
  rfl
theorem txS_step (X Y:Nat→Int) (m c:Nat):txS X Y m (c+1)=Lib.itoa (X m)++58::(Lib.itoa (Y m)++if c=0 then [] else 32::txS X Y (m+1) c):=by
 cases c with
 |zero=>show ktx _ _=_;simp [ktx]
 |succ c=>show ktx _ _++32::_=_;simp [ktx]
def AgK (s:ByteArray) (k:Nat) (L:List (Int×Int)):Prop:=∀n X Y,TabOK n X Y→s.data.toList=txL X Y n→L=tl L.length X Y∧L.length≤n∧(L.length=n→k=s.size+1)∧(L.length<n→s.data.toList.drop k=txS X Y L.length (n - L.length))
theorem agK_start (s:ByteArray):AgK s 0 []:=fun n X Y hok hx=>⟨rfl,Nat.zero_le _,fun h=>by have:=hok.1;simp at h;omega,fun _=>by rw [List.drop_zero,hx,txS_all];rfl⟩
theorem noDig_58 (r:List UInt8):NoDig (58::r):=fun c r' e=>by
 simp at e;rw [←e.1];exact .inr (by decide)
theorem noDig_rest (X Y:Nat→Int) (m c:Nat):NoDig (if c=0 then [] else 32::txS X Y (m+1) c):=fun ch r' e=>by
 split at e
 ·cases e
 ·simp at e;rw [←e.1];exact .inl (by decide)
theorem itoa_pos (v:Int):0<(Lib.itoa v).length:=by
 by_cases hv:v<0
 ·rw [zG0 hv];simp
 ·rw [zE7 hv]
  obtain ⟨c,r,e,_⟩:=zI2 (u:=v.toNat)
  rw [e];simp
theorem drop_more {T a b:List UInt8} {k:Nat} (h:T.drop k=a++b):T.drop (k+a.length)=b:=by
 rw [←List.drop_drop,h];simp
theorem drop_byte {s:ByteArray} {k:Nat} {c:UInt8} {r:List UInt8} (h:s.data.toList.drop k=c::r):∃hk:k<s.size,s[k]=c:=by
 rcases Nat.lt_or_ge k s.size with hk |hk
 ·rw [zK9 s k hk] at h
  exact ⟨hk,(List.cons.inj h).1⟩
 ·rw [List.drop_of_length_le (by rw [←zC6];exact hk)] at h;cases h
structure Rnd (s:ByteArray) (k:Nat) (L:List (Int×Int)) (v1:Int) (i:Nat) (v2:Int) (j:Nat) (n:Nat) (X Y:Nat→Int):Prop where
 lt:L.length<n
 x:v1=X L.length
 c:∃h:i<s.size,s[i]=58
 y:v2=Y L.length
 last:n=L.length+1→j=s.size
 more:L.length+1<n→∃h:j<s.size,s[j]=32∧s.data.toList.drop (j+1)=txS X Y (L.length+1) (n - (L.length+1))
theorem rnd_of {s:ByteArray} {k:Nat} {L:List (Int×Int)} (hA:AgK s k L) (hk:k<s.size) {v1:Int} {i:Nat} (h1:∀x r,s.data.toList.drop k=Lib.itoa x++r→near x→NoDig r→v1=x∧i=k+(Lib.itoa x).length)
 {v2:Int} {j:Nat} (h2:∀x r,s.data.toList.drop (i+1)=Lib.itoa x++r→near x→NoDig r→v2=x∧j=i+1+(Lib.itoa x).length) {n:Nat} {X Y:Nat→Int} (hok:TabOK n X Y) (hx:s.data.toList=txL X Y n):Rnd s k L v1 i v2 j n X Y:=by
 obtain ⟨a1,a2,a3,a4⟩:=hA n X Y hok hx
 have hlt:L.length<n:=by
  rcases Nat.lt_or_ge L.length n with h |h
  ·exact h
  ·have:=a3 (by omega);omega
 have hd:=a4 hlt
 obtain ⟨c,hc⟩:∃c,n - L.length=c+1:=⟨n - L.length - 1,by omega⟩
 rw [hc,txS_step] at hd
 have hn:=hok.near L.length hlt
 obtain ⟨e1,e2⟩:=h1 _ _ hd hn.1 (noDig_58 _)
 have hd2:=drop_more hd
 rw [←e2] at hd2
 obtain ⟨hi,hi2⟩:=drop_byte hd2
 have hd3:s.data.toList.drop (i+1)=Lib.itoa (Y L.length)++if c=0 then [] else 32::txS X Y (L.length+1) c:=by
  rw [zK9 s i hi] at hd2
  exact (List.cons.inj hd2).2
 obtain ⟨e3,e4⟩:=h2 _ _ hd3 hn.2 (noDig_rest X Y _ c)
 have hd4:=drop_more hd3
 rw [←e4] at hd4
 refine ⟨hlt,e1,⟨hi,hi2⟩,e3,fun h=>?_,fun h=>?_⟩
 ·have:c=0:=by omega
  rw [if_pos this] at hd4
  have h5:=congrArg List.length hd3
  rw [if_pos this,List.length_drop,←zC6] at h5
  simp at h5
  have:=itoa_pos (Y L.length)
  omega
 ·have h0:¬c=0:=by omega
  rw [if_neg h0] at hd4
  obtain ⟨hj,hj2⟩:=drop_byte hd4
  refine ⟨hj,hj2,?_⟩
  rw [zK9 s j hj] at hd4
  rw [(List.cons.inj hd4).2,show n - (L.length+1)=c from by omega]
theorem agK_last {s:ByteArray} {k:Nat} {L:List (Int×Int)} {v1 v2:Int} {i j:Nat} (hA:AgK s k L) (h:∀n X Y,TabOK n X Y→s.data.toList=txL X Y n→Rnd s k L v1 i v2 j n X Y) (hj:j=s.size):AgK s (s.size+1) (L++[(v1,v2)]):=fun n X Y hok hx=>by
 have R:=h n X Y hok hx
 have a1:=(hA n X Y hok hx).1
 have hn:n=L.length+1:=by
  rcases Nat.lt_or_ge (L.length+1) n with g |g
  ·obtain ⟨h1,_⟩:=R.more g;omega
  ·have:=R.lt;omega
 refine ⟨?_,by rw [List.length_append];simp;omega,fun _=>rfl,fun h=>by rw [List.length_append] at h;simp at h;omega⟩
 rw [List.length_append,List.length_singleton,tl_succ,R.x,R.y,←a1]
theorem agK_more {s:ByteArray} {k:Nat} {L:List (Int×Int)} {v1 v2:Int} {i j:Nat} (hA:AgK s k L) (h:∀n X Y,TabOK n X Y→s.data.toList=txL X Y n→Rnd s k L v1 i v2 j n X Y) (hj:j<s.size):AgK s (j+1) (L++[(v1,v2)]):=fun n X Y hok hx=>by
 have R:=h n X Y hok hx
 have a1:=(hA n X Y hok hx).1
 have hn:L.length+1<n:=by
  rcases Nat.lt_or_ge (L.length+1) n with g |g
  ·exact g
  ·have:=R.last (by have:=R.lt;omega);omega
 obtain ⟨_,_,hd⟩:=R.more hn
 refine ⟨?_,by rw [List.length_append];simp;omega,fun h=>by rw [List.length_append] at h;simp at h;omega,fun _=>by rw [List.length_append];exact hd⟩
 rw [List.length_append,List.length_singleton,tl_succ,R.x,R.y,←a1]
theorem agK_end {s:ByteArray} {k:Nat} {L:List (Int×Int)} (hA:AgK s k L) (he:s.size≤k∨100<L.length) {n:Nat} {X Y:Nat→Int} (hok:TabOK n X Y) (hx:s.data.toList=txL X Y n):TabOK L.length (kX L) (kY L)∧s.data.toList=txL (kX L) (kY L) L.length:=by
 obtain ⟨a1,a2,a3,a4⟩:=hA n X Y hok hx
 have hn:L.length=n:=by
  rcases Nat.lt_or_ge L.length n with g |g
  ·have hd:=a4 g
   rcases he with h |h
   ·rw [List.drop_of_length_le (by rw [←zC6];exact h)] at hd
    obtain ⟨c,hc⟩:∃c,n - L.length=c+1:=⟨n - L.length - 1,by omega⟩
    rw [hc,txS_step] at hd
    have:=congrArg List.length hd
    simp at this
   ·have:=hok.2.1;omega
  ·omega
 subst hn
 have hk:∀k,k<L.length→kX L k=X k∧kY L k=Y k:=fun k hk=>by
  have:=tl_at (X:=X) (Y:=Y) hk
  rw [←a1] at this
  exact this
 refine ⟨⟨hok.1,hok.2.1,fun k hk'=>?_⟩,?_⟩
 ·have:=hok.2.2 k hk'
  unfold zG6 at this⊢
  rw [(hk k hk').1,(hk k hk').2]
  refine ⟨this.1,this.2.1,fun h0=>?_⟩
  rw [(hk (k - 1) (by omega)).1,(hk (k - 1) (by omega)).2]
  exact this.2.2 h0
 ·rw [hx];exact tx_congr (fun k hk'=>⟨(hk k hk').1.symm,(hk k hk').2.symm⟩)
def KMem (w wr:World) (u:Value) (N:Nat) (L:List (Int×Int)):Prop:=wr.ownsRow w.heap.size 97 2 u N (kc L)∧Below w.heap.size w wr
theorem KMem.call {w wr w':World} {u:Value} {N:Nat} {L:List (Int×Int)} (h:KMem w wr u N L) (hb:Below wr.heap.size wr w'):KMem w w' u N L:=⟨zB7 h.1 hb,zA1 h.2 hb⟩
theorem KMem.app {w wr w':World} {u v:Value} {N:Nat} {L:List (Int×Int)} {x y:Int} (h:KMem w wr u N L) {cs:Array Value} (hown:w'.ownsRow w.heap.size 97 2 v (N+1) (kc L++[.int .i64 x,.int .i64 y])) (hg:(wr.alloc (.cells cs 97)).grownBy w' u.ownBlock):KMem w w' v (N+1) (L++[(x,y)]):=
 ⟨by rw [zL8];exact hown,zJ8 (h.1.alloc _) (h.2.alloc h.2.size _) hg⟩
theorem KMem.form {w wr:World} {u:Value} {N:Nat} {L:List (Int×Int)} (h:KMem w wr u N L):∃A cap,u= .slice A N cap:=by
 rcases h.1.2 with ⟨hv,h0⟩|⟨g,cap,cur,hv,_⟩
 ·exact ⟨none,0,by rw [hv,h0]⟩
 ·exact ⟨_,cap,hv⟩
theorem KMem.tab {w wr:World} {A:Option Addr} {cap N:Nat} {L:List (Int×Int)} (h:KMem w wr (.slice A N cap) N L) (hN:N=L.length) (hs:N≤1000):TabIn wr A N (kX L) (kY L)∧(1≤N→∃g,A=some ⟨g,0,none⟩∧w.heap.size≤g∧TabAt wr g 0 N (kX L) (kY L)):=by
 rcases h.1.2 with ⟨hv,h0⟩|⟨g,cap',cur,hv,_⟩
 ·exact ⟨⟨by omega,.inl h0⟩,fun h1=>by omega⟩
 ·injection hv with e1 e2 e3
  subst e1
  subst e3
  have hown:=h.1
  rw [hN] at hown
  have ht:=tab_of_kc hown
  rw [←hN] at ht
  exact ⟨⟨by omega,.inr ⟨g,0,rfl,ht⟩⟩,fun _=>⟨g,rfl,(h.1.lt g rfl).1,ht⟩⟩
def RParsePost (w:World) (s:ByteArray) (e:Ending) (w':World):Prop:=
 (∃(n:Nat) (X Y:Nat→Int) (g cap:Nat),TabOK n X Y∧s.data.toList=txL X Y n∧e= .returned (.tuple #[.slice (some ⟨g,0,none⟩) n cap,.bool true])∧w.heap.size≤g∧TabAt w' g 0 n X Y∧Below w.heap.size w w')∨
 ((∀n X Y,TabOK n X Y→s.data.toList≠txL X Y n)∧e= .returned (.tuple #[.slice none 0 0,.bool false])∧Below w.heap.size w w')
set_option maxRecDepth 100000 in
set_option maxHeartbeats 8000000 in
theorem rparse (s:ByteArray) (hs:s.size≤100000) (w:World):Calls Tryz.prog 123 #[.string s] w (RParsePost w s):=by
 obtain ⟨i0,hi0,hz0,hz1,hz2⟩:=zA8 info39
 have HI0:=LH hi0
 have HZ0:=LH hz0
 have HZ1:=LH hz1
 have HZ2:=LH hz2
 have hcap:s.size≤100000:=hs
 clear hi0 hz0 hz1 hz2 hs
 go_enter Tryz.func123,Tryz.ntmps123
 go_wp2_with fail
 go_loopw [4,5] (fun u v wr=>∃(k N:Nat) (L:List (Int×Int)),v= .int .i64 k∧Hid (N=L.length)∧Hid (N≤101)∧Hid (k≤s.size+1)∧Hid (AgK s k L)∧Hid (KMem w wr u N L)) (fun _ v _=>s.size+1 - (intOf v).toNat)
 case atStart=>exact ⟨0,0,[],rfl,rfl,Nat.zero_le _,Nat.zero_le _,agK_start s,World.ownsRow_nil _ _ _ _,bR _ _⟩
 case round=>
  obtain ⟨k,N,L,rfl,HL,HL1,HK,HA,HM⟩:=hrel
  obtain ⟨A0,cap0,h8⟩:=HM.out.form
  subst h8
  by_cases hk:k<s.size
  case neg=>
   have T0:decide ((k:Int)<(s.size:Int))=false:=dF (by omega)
   have T0':decide (k<s.size)=false:=dF hk
   have hk2:s.size≤k:=by omega
   have HEN:=LH fun (n:Nat) (X Y:Nat→Int) (h1:TabOK n X Y) h2=>agK_end HA.out (.inl hk2) h1 h2
   obtain ⟨ht,ht2⟩:=HM.out.tab HL.out (by have:=HL1.out;omega)
   have SV:=zK3 A0 N cap0 (kX L) (kY L) wr ht
   rw [←HL.out] at HEN
   by_cases hok:TabOK N (kX L) (kY L)
   ·rw [zF8 hok] at SV
    have SV:=LH SV
    obtain ⟨g,rfl,hg,htg⟩:=ht2 hok.1
    have HTG:=LH htg
    have HG:=LH hg
    obtain ⟨q,hq⟩:∃q:ByteArray,q=⟨(txL (kX L) (kY L) N).toArray⟩:=⟨_,rfl⟩
    have ST:=LH fun w h=>zK4 g 0 N cap0 (kX L) (kY L) w hok h
    rw [←hq] at ST
    have hgl:=htg.1
    by_cases he:q=s
    ·subst he
     have HOK:=LH hok
     have HX:Hid (q.data.toList=txL (kX L) (kY L) N):=by show _=_;rw [hq]
     clear hq hok ht ht2 hg htg hk hk2
     go_wp2_with (first
        |(go_at_call 144
          with_reducible refine (SV.out).mono ?_
          rintro e w8 ⟨rfl,hb8⟩
          have HB8:=LH hb8
          clear hb8)
        |(go_at_call 127
          with_reducible refine (ST.out _ ?_).mono ?_
          focus (exact HTG.out.below HB8.out hgl)
          rintro e w9 ⟨rfl,hb9⟩
          have HB9:=LH (zA1 HB8.out hb9)
          clear hb9))
     go_ret2
     exact .inl ⟨N,kX L,kY L,g,cap0,HOK.out,HX.out,rfl,HG.out,HTG.out.below HB9.out hgl,zA1 HM.out.2 HB9.out⟩
    ·have HNO:Hid (∀n X Y,TabOK n X Y→s.data.toList≠txL X Y n):=fun n X Y h1 h2=>he (by
        rw [hq,←(HEN.out n X Y h1 h2).2])
     have u1:¬q.toList=s.toList:=fun h=>he (zC1 h)
     have u2:decide (q.toList=s.toList)=false:=dF u1
     have u3:(q.toList==s.toList)=false:=by simp [u1]
     clear hq hok he ht ht2 hg htg hk hk2
     go_wp2_with (first
        |(go_at_call 144
          with_reducible refine (SV.out).mono ?_
          rintro e w8 ⟨rfl,hb8⟩
          have HB8:=LH hb8
          clear hb8)
        |(go_at_call 127
          with_reducible refine (ST.out _ ?_).mono ?_
          focus (exact HTG.out.below HB8.out hgl)
          rintro e w9 ⟨rfl,hb9⟩
          have HB9:=LH (zA1 HB8.out hb9)
          clear hb9))
     go_ret2
     exact .inr ⟨HNO.out,rfl,zA1 HM.out.2 HB9.out⟩
   ·rw [zE9 hok] at SV
    have SV:=LH SV
    have HNO:Hid (∀n X Y,TabOK n X Y→s.data.toList≠txL X Y n):=fun n X Y h1 h2=>hok (HEN.out n X Y h1 h2).1
    clear hok ht ht2 hk hk2
    go_wp2_with (first
     |(go_at_call 144
       with_reducible refine (SV.out).mono ?_
       rintro e w8 ⟨rfl,hb8⟩
       have HB8:=LH hb8
       clear hb8))
    go_ret2
    exact .inr ⟨HNO.out,rfl,zA1 HM.out.2 HB8.out⟩
  have T0:decide ((k:Int)<(s.size:Int))=true:=dT (by omega)
  have T0':decide (k<s.size)=true:=dT hk
  by_cases hN:N≤100
  case neg=>
   have T1:decide ((N:Int)≤100)=false:=dF (by omega)
   have T1':decide (N≤100)=false:=dF hN
   have hk2:100<L.length:=by have:=HL.out;omega
   have HEN:=LH fun (n:Nat) (X Y:Nat→Int) (h1:TabOK n X Y) h2=>agK_end HA.out (.inr hk2) h1 h2
   obtain ⟨ht,ht2⟩:=HM.out.tab HL.out (by have:=HL1.out;omega)
   have SV:=zK3 A0 N cap0 (kX L) (kY L) wr ht
   rw [←HL.out] at HEN
   by_cases hok:TabOK N (kX L) (kY L)
   ·rw [zF8 hok] at SV
    have SV:=LH SV
    obtain ⟨g,rfl,hg,htg⟩:=ht2 hok.1
    have HTG:=LH htg
    have HG:=LH hg
    obtain ⟨q,hq⟩:∃q:ByteArray,q=⟨(txL (kX L) (kY L) N).toArray⟩:=⟨_,rfl⟩
    have ST:=LH fun w h=>zK4 g 0 N cap0 (kX L) (kY L) w hok h
    rw [←hq] at ST
    have hgl:=htg.1
    by_cases he:q=s
    ·subst he
     have HOK:=LH hok
     have HX:Hid (q.data.toList=txL (kX L) (kY L) N):=by show _=_;rw [hq]
     clear hq hok ht ht2 hg htg hk hk2 hN
     go_wp2_with (first
        |(go_at_call 144
          with_reducible refine (SV.out).mono ?_
          rintro e w8 ⟨rfl,hb8⟩
          have HB8:=LH hb8
          clear hb8)
        |(go_at_call 127
          with_reducible refine (ST.out _ ?_).mono ?_
          focus (exact HTG.out.below HB8.out hgl)
          rintro e w9 ⟨rfl,hb9⟩
          have HB9:=LH (zA1 HB8.out hb9)
          clear hb9))
     go_ret2
     exact .inl ⟨N,kX L,kY L,g,cap0,HOK.out,HX.out,rfl,HG.out,HTG.out.below HB9.out hgl,zA1 HM.out.2 HB9.out⟩
    ·have HNO:Hid (∀n X Y,TabOK n X Y→s.data.toList≠txL X Y n):=fun n X Y h1 h2=>he (by
        rw [hq,←(HEN.out n X Y h1 h2).2])
     have u1:¬q.toList=s.toList:=fun h=>he (zC1 h)
     have u2:decide (q.toList=s.toList)=false:=dF u1
     have u3:(q.toList==s.toList)=false:=by simp [u1]
     clear hq hok he ht ht2 hg htg hk hk2 hN
     go_wp2_with (first
        |(go_at_call 144
          with_reducible refine (SV.out).mono ?_
          rintro e w8 ⟨rfl,hb8⟩
          have HB8:=LH hb8
          clear hb8)
        |(go_at_call 127
          with_reducible refine (ST.out _ ?_).mono ?_
          focus (exact HTG.out.below HB8.out hgl)
          rintro e w9 ⟨rfl,hb9⟩
          have HB9:=LH (zA1 HB8.out hb9)
          clear hb9))
     go_ret2
     exact .inr ⟨HNO.out,rfl,zA1 HM.out.2 HB9.out⟩
   ·rw [zE9 hok] at SV
    have SV:=LH SV
    have HNO:Hid (∀n X Y,TabOK n X Y→s.data.toList≠txL X Y n):=fun n X Y h1 h2=>hok (HEN.out n X Y h1 h2).1
    clear hok ht ht2 hk hk2 hN
    go_wp2_with (first
     |(go_at_call 144
       with_reducible refine (SV.out).mono ?_
       rintro e w8 ⟨rfl,hb8⟩
       have HB8:=LH hb8
       clear hb8))
    go_ret2
    exact .inr ⟨HNO.out,rfl,zA1 HM.out.2 HB8.out⟩
  have T1:decide ((N:Int)≤100)=true:=dT (by omega)
  have T1':decide (N≤100)=true:=dT hN
  obtain ⟨v1,i,hi1,hi2,hi3,hi4,hi5⟩:=rnumT s hcap k (Nat.le_of_lt hk)
  have S1:=LH hi5
  have HI3:=LH hi3
  clear hi5 hi3
  by_cases hi:i<s.size
  case neg=>
   have T2:decide ((s.size:Int)≤(i:Int))=true:=dT (by omega)
   have T2':decide (s.size≤i)=true:=dT (by omega)
   have HNO:Hid (∀n X Y,TabOK n X Y→s.data.toList≠txL X Y n):=fun n X Y h1 h2=>by
        obtain ⟨v2,j,_,_,h3,_⟩:=rnumT s hcap (i+1 - 1) (by omega)
        have a:=(rnd_of HA.out hk HI3.out (v2:=if s.data.toList.drop (i+1)=Lib.itoa 0 then 0 else 0) (j:=0) (fun x r hx=>by
         rw [List.drop_of_length_le (by rw [←zC6];omega)] at hx
         have:=itoa_pos x
         have:=congrArg List.length hx
         simp at this
         omega) h1 h2).c
        obtain ⟨h4,_⟩:=a
        exact hi h4
   clear hi hk hN hi1 hi2 hi4
   go_wp2_with (first
        |(go_at_call 158
          with_reducible refine (S1.out _).mono ?_
          clear S1
          rintro e w5 ⟨rfl,rfl⟩))
   go_ret2
   exact .inr ⟨HNO.out,rfl,HM.out.2⟩
  have T2:decide ((s.size:Int)≤(i:Int))=false:=dF (by omega)
  have T2':decide (s.size≤i)=false:=dF (by omega)
  have q0:(0:Int)≤(i:Int):=by omega
  have q1:(i:Int)<(s.size:Int):=by omega
  obtain ⟨i',hi'⟩:∃z,z=i+1:=⟨_,rfl⟩
  have x1:IntKind.i64.wrap ((i:Int)+1)=(i':Int):=by rw [IntKind.wrap_i64];omega
  obtain ⟨v2,j,hj1,hj2,hj3,hj4,hj5⟩:=rnumT s hcap i' (by omega)
  have S2:=LH hj5
  rw [hi'] at hj3
  have HR:=LH fun n X Y h1 h2=>rnd_of HA.out hk HI3.out hj3 (n:=n) (X:=X) (Y:=Y) h1 h2
  clear hj5 hj3
  obtain ⟨c,hc⟩:∃c:Nat,(s[i]'hi).toNat=c:=⟨_,rfl⟩
  by_cases hc58:c=58
  case neg=>
   have u1:((c:Int)==58)=false:=by simp<;> omega
   have u2:decide (c=58)=false:=dF hc58
   have HNO:Hid (∀n X Y,TabOK n X Y→s.data.toList≠txL X Y n):=fun n X Y h1 h2=>by
        obtain ⟨h3,h4⟩:=(HR.out n X Y h1 h2).c
        exact hc58 (by rw [←hc,h4];rfl)
   clear hk hN hi1 hi2 hi4 hj1 hj2 hj4 hi' hc58 x1
   go_wp2_with (first
        |(go_at_call 158
          with_reducible refine (S1.out _).mono ?_
          clear S1
          rintro e w5 ⟨rfl,rfl⟩))
   go_ret2
   exact .inr ⟨HNO.out,rfl,HM.out.2⟩
  have u1:((c:Int)==58)=true:=by simp<;> omega
  have u2:decide (c=58)=true:=dT hc58
  by_cases hj:j<s.size
  case neg=>
   have T3:decide ((j:Int)<(s.size:Int))=false:=dF (by omega)
   have T3':decide (j<s.size)=false:=dF hj
   have hjs:j=s.size:=by omega
   obtain ⟨k',hk'⟩:∃z,z=j+1:=⟨_,rfl⟩
   have x2:IntKind.i64.wrap ((j:Int)+1)=(k':Int):=by rw [IntKind.wrap_i64];omega
   have HA2:Hid (AgK s k' (L++[(v1,v2)])):=by
        show AgK _ _ _
        rw [hk',hjs]
        exact agK_last HA.out HR.out hjs
   have HK2:Hid (k'≤s.size+1):=by show k'≤s.size+1;omega
   have HL2:Hid (N+1=(L++[(v1,v2)]).length):=by show _=_;rw [List.length_append,←HL.out];rfl
   have HL3:Hid (N+1≤101):=by show N+1≤101;omega
   have HMS:Hid (s.size+1 - (intOf (Value.int .i64 (k':Int))).toNat<s.size+1 - (intOf (Value.int .i64 (k:Int))).toNat):=by show _<_;simp [intOf];omega
   clear hk hi1 hi2 hi4 hj1 hj2 hj4 hi' hc58 hk' hj hjs HR HI3
   go_wp2_with (first
        |(go_at_call 158
          with_reducible refine (S1.out _).mono ?_
          clear S1
          rintro e w5 ⟨rfl,rfl⟩)
        |(go_at_call 158
          with_reducible refine (S2.out _).mono ?_
          clear S2
          rintro e w6 ⟨rfl,rfl⟩)
        |(at_builtin;refine wpList_append_own_at _ ?q1_1 (.tmp 42) (.tmp 46) 53 ?q1_2 (w.heap.size) 97 i0 (.agg #[.int .i64 0,.int .i64 0]) 2 16 Tryz.underlying53 HI0.out HZ0.out HZ1.out HZ2.out ?q1_3 ?q1_4 (.slice A0 N cap0) N (kc L) ?q1_5 (HM.out.1.alloc _) ⟨wr.heap.size,0,none⟩ 1 1 [.int .i64 v1,.int .i64 v2] ?q1_7 (rfl) (World.news_of_block (cs:=#[.int .i64 v1,.int .i64 v2]) (t:=97) (fr:=(0,0)) (heap_alloc_new _ _)) (by simp [Value.oneCell']) (h63_le (by omega)) (hby_le (by omega)) (zA9 HM.out.2.size _) ?q1_14
          case q1_1=>exact rfl
          case q1_2=>exact rfl
          case q1_3=>exact rfl
          case q1_4=>decide
          case q1_5=>exact rfl
          case q1_7=>exact rfl
          intro u2 w7 hown2 hgrow2 hnil2 hat2
          have HM7:=LH (HM.out.app hown2 hgrow2)
          clear hown2 hgrow2 hnil2 hat2))
   go_roundw
   case rel=>exact ⟨k',N+1,L++[(v1,v2)],rfl,HL2,HL3,HK2,HA2,HM7⟩
   case measure=>exact HMS.out
  have T3:decide ((j:Int)<(s.size:Int))=true:=dT (by omega)
  have T3':decide (j<s.size)=true:=dT hj
  have r0:(0:Int)≤(j:Int):=by omega
  have r1:(j:Int)<(s.size:Int):=by omega
  obtain ⟨d,hd⟩:∃d:Nat,(s[j]'hj).toNat=d:=⟨_,rfl⟩
  by_cases hd32:d=32
  case neg=>
   have u3:((d:Int)==32)=false:=by simp<;> omega
   have u4:decide (d=32)=false:=dF hd32
   have HNO:Hid (∀n X Y,TabOK n X Y→s.data.toList≠txL X Y n):=fun n X Y h1 h2=>by
        have R:=HR.out n X Y h1 h2
        rcases Nat.lt_or_ge (L.length+1) n with g |g
        ·obtain ⟨h3,h4,_⟩:=R.more g
         exact hd32 (by rw [←hd,h4];rfl)
        ·have:=R.last (by have:=R.lt;omega);omega
   clear hk hi1 hi2 hi4 hj1 hj2 hj4 hi' hc58 hd32 HR HI3
   go_wp2_with (first
        |(go_at_call 158
          with_reducible refine (S1.out _).mono ?_
          clear S1
          rintro e w5 ⟨rfl,rfl⟩)
        |(go_at_call 158
          with_reducible refine (S2.out _).mono ?_
          clear S2
          rintro e w6 ⟨rfl,rfl⟩)
        |(at_builtin;refine wpList_append_own_at _ ?q2_1 (.tmp 42) (.tmp 46) 53 ?q2_2 (w.heap.size) 97 i0 (.agg #[.int .i64 0,.int .i64 0]) 2 16 Tryz.underlying53 HI0.out HZ0.out HZ1.out HZ2.out ?q2_3 ?q2_4 (.slice A0 N cap0) N (kc L) ?q2_5 (HM.out.1.alloc _) ⟨wr.heap.size,0,none⟩ 1 1 [.int .i64 v1,.int .i64 v2] ?q2_7 (rfl) (World.news_of_block (cs:=#[.int .i64 v1,.int .i64 v2]) (t:=97) (fr:=(0,0)) (heap_alloc_new _ _)) (by simp [Value.oneCell']) (h63_le (by omega)) (hby_le (by omega)) (zA9 HM.out.2.size _) ?q2_14
          case q2_1=>exact rfl
          case q2_2=>exact rfl
          case q2_3=>exact rfl
          case q2_4=>decide
          case q2_5=>exact rfl
          case q2_7=>exact rfl
          intro u2 w7 hown2 hgrow2 hnil2 hat2
          have HM7:=LH (HM.out.app hown2 hgrow2)
          clear hown2 hgrow2 hnil2 hat2))
   go_ret2
   exact .inr ⟨HNO.out,rfl,HM7.out.2⟩
  have u3:((d:Int)==32)=true:=by simp<;> omega
  have u4:decide (d=32)=true:=dT hd32
  obtain ⟨k',hk'⟩:∃z,z=j+1:=⟨_,rfl⟩
  have x2:IntKind.i64.wrap ((j:Int)+1)=(k':Int):=by rw [IntKind.wrap_i64];omega
  have HA2:Hid (AgK s k' (L++[(v1,v2)])):=by
   show AgK _ _ _
   rw [hk']
   exact agK_more HA.out HR.out hj
  have HK2:Hid (k'≤s.size+1):=by show k'≤s.size+1;omega
  have HL2:Hid (N+1=(L++[(v1,v2)]).length):=by show _=_;rw [List.length_append,←HL.out];rfl
  have HL3:Hid (N+1≤101):=by show N+1≤101;omega
  have HMS:Hid (s.size+1 - (intOf (Value.int .i64 (k':Int))).toNat<s.size+1 - (intOf (Value.int .i64 (k:Int))).toNat):=by show _<_;simp [intOf];omega
  clear hk hi1 hi2 hi4 hj1 hj2 hj4 hi' hc58 hd32 hk' HR HI3
  go_wp2_with (first
   |(go_at_call 158
     with_reducible refine (S1.out _).mono ?_
     clear S1
     rintro e w5 ⟨rfl,rfl⟩)
   |(go_at_call 158
     with_reducible refine (S2.out _).mono ?_
     clear S2
     rintro e w6 ⟨rfl,rfl⟩)
   |(at_builtin;refine wpList_append_own_at _ ?q3_1 (.tmp 42) (.tmp 46) 53 ?q3_2 (w.heap.size) 97 i0 (.agg #[.int .i64 0,.int .i64 0]) 2 16 Tryz.underlying53 HI0.out HZ0.out HZ1.out HZ2.out ?q3_3 ?q3_4 (.slice A0 N cap0) N (kc L) ?q3_5 (HM.out.1.alloc _) ⟨wr.heap.size,0,none⟩ 1 1 [.int .i64 v1,.int .i64 v2] ?q3_7 (rfl) (World.news_of_block (cs:=#[.int .i64 v1,.int .i64 v2]) (t:=97) (fr:=(0,0)) (heap_alloc_new _ _)) (by simp [Value.oneCell']) (h63_le (by omega)) (hby_le (by omega)) (zA9 HM.out.2.size _) ?q3_14
     case q3_1=>exact rfl
     case q3_2=>exact rfl
     case q3_3=>exact rfl
     case q3_4=>decide
     case q3_5=>exact rfl
     case q3_7=>exact rfl
     intro u2 w7 hown2 hgrow2 hnil2 hat2
     have HM7:=LH (HM.out.app hown2 hgrow2)
     clear hown2 hgrow2 hnil2 hat2))
  go_roundw
  case rel=>exact ⟨k',N+1,L++[(v1,v2)],rfl,HL2,HL3,HK2,HA2,HM7⟩
  case measure=>exact HMS.out
end Go.Proofs.YtghefgifhebniaaGreatDoor

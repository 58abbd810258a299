/- Merged texts of these proofs: ScP, ScR, Bld, TxN, ScZ, ScC, Abc. -/
import Derived.Test.YtchakniaoeodmaaGreatDoorMgV
import Derived.Shelf.Strings.BuilderK
import Derived.Test.YtchakniaoeodmaaGreatDoorNetV
namespace Go.Proofs.YtchakniaoeodmaaGreatDoor
open Go.RowKit
set_option linter.unusedVariables false
set_option linter.unusedSimpArgs false
structure Chr where
 kd:Int
 x:Ndr
 l:Lkr
noncomputable def fnN (N:List Ndr) (s:ByteArray):Int:=fnd (fun i=>(N.getD i zNd).nm) N.length s
noncomputable def fnL (L:List Lkr) (s:ByteArray):Int:=fnd (fun i=>(L.getD i zLk).nm) L.length s
theorem zC4 (X:Nat→ByteArray) (n:Nat) (s:ByteArray):(fnd X n s= -1∧∀j,j<n→X j≠s)∨∃k:Nat,k<n∧fnd X n s=(k:Int)∧X k=s∧∀j,j<k→X j≠s:=by
 obtain ⟨k,hk,hv⟩:=zG7 X n s
 by_cases h:k<n
 ·rw [if_pos h] at hv
  exact .inr ⟨k,h,hv,of_decide_eq_true (hk.2.2 h),fun j hj=>of_decide_eq_false (hk.2.1 j hj)⟩
 ·rw [if_neg h] at hv
  exact .inl ⟨hv,fun j hj=>of_decide_eq_false (hk.2.1 j (by have:=hk.1;omega))⟩
theorem zC9 {α:Type} {L:List α} {k:Nat} {z:α} (h:k<L.length):L.getD k z∈L:=by
 rw [List.getD_eq_getElem?_getD,List.getElem?_eq_getElem h]
 exact List.getElem_mem _
theorem zI7 {α:Type} {L:List α} {x z:α} (h:x∈L):∃k,k<L.length∧L.getD k z=x:=by
 obtain ⟨k,hk,e⟩:=List.getElem_of_mem h
 exact ⟨k,hk,by rw [List.getD_eq_getElem?_getD,List.getElem?_eq_getElem hk];exact e⟩
theorem zH2 (N:List Ndr) (s:ByteArray):(fnN N s= -1∧∀x,x∈N→x.nm≠s)∨∃k:Nat,k<N.length∧fnN N s=(k:Int)∧(N.getD k zNd).nm=s∧∀j,j<k→(N.getD j zNd).nm≠s:=by
 rcases zC4 (fun i=>(N.getD i zNd).nm) N.length s with ⟨h,g⟩|h
 ·refine .inl ⟨h,fun x hx=>?_⟩
  obtain ⟨k,hk,rfl⟩:=zI7 (z:=zNd) hx
  exact g k hk
 ·exact .inr h
theorem zV2 (L:List Lkr) (s:ByteArray):(fnL L s= -1∧∀x,x∈L→x.nm≠s)∨∃k:Nat,k<L.length∧fnL L s=(k:Int)∧(L.getD k zLk).nm=s∧∀j,j<k→(L.getD j zLk).nm≠s:=by
 rcases zC4 (fun i=>(L.getD i zLk).nm) L.length s with ⟨h,g⟩|h
 ·refine .inl ⟨h,fun x hx=>?_⟩
  obtain ⟨k,hk,rfl⟩:=zI7 (z:=zLk) hx
  exact g k hk
 ·exact .inr h
structure VS (N:List Ndr) (L:List Lkr):Prop where
 n300:N.length≤300
 l400:L.length≤400
 nd:∀x,x∈N→vNd x
 nn:(N.map (·.nm)).Nodup
 lk:∀l,l∈L→vLk l
 ln:(L.map (·.nm)).Nodup
 fr:∀l,l∈L→∃x,x∈N∧x.nm=l.fr∧x.kd≠3
 tn:∀l,l∈L→∃x,x∈N∧x.nm=l.tn
theorem zJ6 {α:Type} (f:α→ByteArray) (L:List α) (z:α):(L.map f).Nodup↔∀i j,j<i→i<L.length→f (L.getD j z)≠f (L.getD i z):=by
 unfold List.Nodup
 rw [List.pairwise_iff_getElem]
 simp only [List.length_map,List.getElem_map]
 constructor
 ·intro h i j hj hi
  have:=h j i (by omega) hi hj
  rw [List.getD_eq_getElem?_getD,List.getD_eq_getElem?_getD,List.getElem?_eq_getElem hi,List.getElem?_eq_getElem (by omega:j<L.length)]
  exact this
 ·intro h i j hi hj hij
  have:=h j i hij hj
  rw [List.getD_eq_getElem?_getD,List.getD_eq_getElem?_getD,List.getElem?_eq_getElem hi,List.getElem?_eq_getElem hj] at this
  exact this
theorem zK3 {α:Type} {f:α→ByteArray} {L:List α} (h:(L.map f).Nodup) {a b:α} (ha:a∈L) (hb:b∈L) (e:f a=f b):a=b:=by
 have h2:=(zJ6 f L a).1 h
 obtain ⟨i,hi,hia⟩:=zI7 (z:=a) ha
 obtain ⟨j,hj,hjb⟩:=zI7 (z:=a) hb
 rcases Nat.lt_trichotomy i j with g |g |g
 ·exact absurd (by rw [hia,hjb];exact e) (h2 j i g hj)
 ·rw [←hia,←hjb,g]
 ·exact absurd (by rw [hia,hjb];exact e.symm) (h2 i j g hi)
theorem fnN_self {N:List Ndr} {i:Nat} (hi:i<N.length):fnN N (N.getD i zNd).nm=(i:Int)↔∀j,j<i→(N.getD j zNd).nm≠(N.getD i zNd).nm:=by
 rcases zH2 N (N.getD i zNd).nm with ⟨_,g⟩|⟨k,hk,e,hn,g⟩
 ·exact absurd rfl (g _ (zC9 hi))
 ·rw [e]
  constructor
  ·intro h
   have:k=i:=by omega
   subst this
   exact g
  ·intro h
   have h1:¬k<i:=fun q=>h k q hn
   have h2:¬i<k:=fun q=>g i q rfl
   omega
theorem fnL_self {L:List Lkr} {i:Nat} (hi:i<L.length):fnL L (L.getD i zLk).nm=(i:Int)↔∀j,j<i→(L.getD j zLk).nm≠(L.getD i zLk).nm:=by
 rcases zV2 L (L.getD i zLk).nm with ⟨_,g⟩|⟨k,hk,e,hn,g⟩
 ·exact absurd rfl (g _ (zC9 hi))
 ·rw [e]
  constructor
  ·intro h
   have:k=i:=by omega
   subst this
   exact g
  ·intro h
   have h1:¬k<i:=fun q=>h k q hn
   have h2:¬i<k:=fun q=>g i q rfl
   omega
theorem netV_VS (N:List Ndr) (L:List Lkr):netV N L↔VS N L:=by
 constructor
 ·intro h
  obtain ⟨h1,h2,h3,h4⟩:=h
  have nn:(N.map (·.nm)).Nodup:=(zJ6 _ N zNd).2 fun i j hj hi=>(fnN_self hi).1 (h3 i hi).2 j hj
  have ln:(L.map (·.nm)).Nodup:=(zJ6 _ L zLk).2 fun i j hj hi=>(fnL_self hi).1 (h4 i hi).2.1 j hj
  refine ⟨h1,h2,fun x hx=>?_,nn,fun l hl=>?_,ln,fun l hl=>?_,fun l hl=>?_⟩
  ·obtain ⟨k,hk,rfl⟩:=zI7 (z:=zNd) hx
   exact (h3 k hk).1
  ·obtain ⟨k,hk,rfl⟩:=zI7 (z:=zLk) hl
   exact (h4 k hk).1
  ·obtain ⟨k,hk,rfl⟩:=zI7 (z:=zLk) hl
   have a:=(h4 k hk).2.2.1
   have b:=(h4 k hk).2.2.2.2
   rcases zH2 N (L.getD k zLk).fr with ⟨e,_⟩|⟨j,hj,e,hn,_⟩
   ·have e':fnd (fun i=>(N.getD i zNd).nm) N.length (L.getD k zLk).fr= -1:=e
    have a':0≤fnd (fun i=>(N.getD i zNd).nm) N.length (L.getD k zLk).fr:=a
    omega
   ·refine ⟨_,zC9 hj,hn,?_⟩
    have b':(N.getD (fnN N (L.getD k zLk).fr).toNat zNd).kd≠3:=b
    rw [e] at b'
    exact b'
  ·obtain ⟨k,hk,rfl⟩:=zI7 (z:=zLk) hl
   have a:=(h4 k hk).2.2.2.1
   rcases zH2 N (L.getD k zLk).tn with ⟨e,_⟩|⟨j,hj,e,hn,_⟩
   ·have e':fnd (fun i=>(N.getD i zNd).nm) N.length (L.getD k zLk).tn= -1:=e
    have a':0≤fnd (fun i=>(N.getD i zNd).nm) N.length (L.getD k zLk).tn:=a
    omega
   ·exact ⟨_,zC9 hj,hn⟩
 ·intro h
  refine ⟨h.n300,h.l400,fun i hi=>⟨h.nd _ (zC9 hi),(fnN_self hi).2 fun j hj=>(zJ6 _ N zNd).1 h.nn i j hj hi⟩,fun i hi=>⟨h.lk _ (zC9 hi),(fnL_self hi).2 fun j hj=>(zJ6 _ L zLk).1 h.ln i j hj hi,?_,?_,?_⟩⟩
  ·obtain ⟨x,hx,e,_⟩:=h.fr _ (zC9 (z:=zLk) hi)
   rcases zH2 N (L.getD i zLk).fr with ⟨_,g⟩|⟨j,_,e2,_,_⟩
   ·exact absurd e (g x hx)
   ·show 0≤fnN N (L.getD i zLk).fr
    omega
  ·obtain ⟨x,hx,e⟩:=h.tn _ (zC9 (z:=zLk) hi)
   rcases zH2 N (L.getD i zLk).tn with ⟨_,g⟩|⟨j,_,e2,_,_⟩
   ·exact absurd e (g x hx)
   ·show 0≤fnN N (L.getD i zLk).tn
    omega
  ·obtain ⟨x,hx,e,hk⟩:=h.fr _ (zC9 (z:=zLk) hi)
   show (N.getD (fnN N (L.getD i zLk).fr).toNat zNd).kd≠3
   rcases zH2 N (L.getD i zLk).fr with ⟨_,g⟩|⟨j,hj,e2,hn,_⟩
   ·exact absurd e (g x hx)
   ·rw [e2,Int.toNat_natCast]
    rw [zK3 h.nn (zC9 (z:=zNd) hj) hx (hn.trans e.symm)]
    exact hk
theorem VS.perm {N N':List Ndr} {L L':List Lkr} (h:VS N L) (hN:N.Perm N') (hL:L.Perm L'):VS N' L':=by
 refine ⟨by rw [←hN.length_eq];exact h.n300,by rw [←hL.length_eq];exact h.l400,fun x hx=>h.nd x (hN.mem_iff.2 hx),(hN.map _).nodup_iff.1 h.nn,fun l hl=>h.lk l (hL.mem_iff.2 hl),(hL.map _).nodup_iff.1 h.ln,fun l hl=>?_,fun l hl=>?_⟩
 ·obtain ⟨x,hx,e⟩:=h.fr l (hL.mem_iff.2 hl)
  exact ⟨x,hN.mem_iff.1 hx,e⟩
 ·obtain ⟨x,hx,e⟩:=h.tn l (hL.mem_iff.2 hl)
  exact ⟨x,hN.mem_iff.1 hx,e⟩
def wioN (N:List Ndr) (s:ByteArray):List Ndr:=N.filter fun x=>decide (x.nm≠s)
def wioL (L:List Lkr) (s:ByteArray):List Lkr:=L.filter fun x=>decide (x.nm≠s)
theorem zM2 {α:Type} {f:α→ByteArray} {z:α}:∀{L:List α} {k:Nat},(L.map f).Nodup→k<L.length→L.eraseIdx k=L.filter (fun x=>decide (f x≠f (L.getD k z)))
 |[],k,_,h=>absurd h (Nat.not_lt_zero _)
 |a::L,0,hn,h=>by
  have h1:∀b,b∈L→f b≠f a:=fun b hb e=>by
   have:=(List.nodup_cons.1 (show (f a::L.map f).Nodup from hn)).1
   exact this (List.mem_map.2 ⟨b,hb,e⟩)
  show L=(a::L).filter _
  rw [List.filter_cons_of_neg (by simp)]
  exact (List.filter_eq_self.2 fun b hb=>dU (h1 b hb)).symm
 |a::L,k+1,hn,h=>by
  have hn':=List.nodup_cons.1 (show (f a::L.map f).Nodup from hn)
  have hk:k<L.length:=by simpa using h
  have h1:f a≠f (L.getD k z):=fun e=>hn'.1 (List.mem_map.2 ⟨_,zC9 hk,e.symm⟩)
  show a::L.eraseIdx k=(a::L).filter (fun x=>decide (f x≠f (L.getD k z)))
  rw [List.filter_cons_of_pos (by simpa using h1),zM2 hn'.2 hk]
theorem zY8 {α:Type}:∀{L:List α} {k:Nat} (x:α),k<L.length→(L.set k x).Perm (L.eraseIdx k++[x])
 |[],k,_,h=>absurd h (Nat.not_lt_zero _)
 |a::L,0,x,_=>by
  show (x::L).Perm (L++[x])
  exact (List.perm_append_comm (l₁:=[x]) (l₂:=L))
 |a::L,k+1,x,h=>by
  show (a::L.set k x).Perm (a::(L.eraseIdx k++[x]))
  exact (zY8 x (by simpa using h)).cons a
def hasN (N:List Ndr) (s:ByteArray):Prop:=∃x,x∈N∧x.nm=s
def hasL (L:List Lkr) (s:ByteArray):Prop:=∃x,x∈L∧x.nm=s
def zF8 (L:List Lkr) (s:ByteArray):Prop:=∃l,l∈L∧(l.fr=s∨l.tn=s)
noncomputable def opN (N:List Ndr) (c:Chr):List Ndr:=if c.kd=1 then N++[c.x] else if c.kd=2 then N.set (fnN N c.x.nm).toNat c.x else if c.kd=3 then N.eraseIdx (fnN N c.x.nm).toNat else N
noncomputable def opL (L:List Lkr) (c:Chr):List Lkr:=if c.kd=4 then L++[c.l] else if c.kd=5 then L.set (fnL L c.l.nm).toNat c.l else if c.kd=6 then L.eraseIdx (fnL L c.l.nm).toNat else L
def pN (N:List Ndr) (c:Chr):List Ndr:=if c.kd=1 then N++[c.x] else if c.kd=2 then wioN N c.x.nm++[c.x] else if c.kd=3 then wioN N c.x.nm else N
def pL (L:List Lkr) (c:Chr):List Lkr:=if c.kd=4 then L++[c.l] else if c.kd=5 then wioL L c.l.nm++[c.l] else if c.kd=6 then wioL L c.l.nm else L
theorem zX7 {N:List Ndr} {s:ByteArray} (hn:(N.map (·.nm)).Nodup) (h:hasN N s):∃k,k<N.length∧fnN N s=(k:Int)∧(N.getD k zNd).nm=s∧N.eraseIdx k=wioN N s:=by
 obtain ⟨x,hx,e⟩:=h
 rcases zH2 N s with ⟨_,g⟩|⟨k,hk,e1,e2,_⟩
 ·exact absurd e (g x hx)
 ·refine ⟨k,hk,e1,e2,?_⟩
  rw [zM2 (f:=(·.nm)) (z:=zNd) hn hk]
  unfold wioN
  rw [e2]
theorem zX8 {L:List Lkr} {s:ByteArray} (hn:(L.map (·.nm)).Nodup) (h:hasL L s):∃k,k<L.length∧fnL L s=(k:Int)∧(L.getD k zLk).nm=s∧L.eraseIdx k=wioL L s:=by
 obtain ⟨x,hx,e⟩:=h
 rcases zV2 L s with ⟨_,g⟩|⟨k,hk,e1,e2,_⟩
 ·exact absurd e (g x hx)
 ·refine ⟨k,hk,e1,e2,?_⟩
  rw [zM2 (f:=(·.nm)) (z:=zLk) hn hk]
  unfold wioL
  rw [e2]
theorem opN_perm {N:List Ndr} {c:Chr} (hn:(N.map (·.nm)).Nodup) (hf:c.kd=2∨c.kd=3→hasN N c.x.nm):(opN N c).Perm (pN N c):=by
 unfold opN pN
 by_cases h1:c.kd=1
 ·rw [if_pos h1,if_pos h1]
 rw [if_neg h1,if_neg h1]
 by_cases h2:c.kd=2
 ·rw [if_pos h2,if_pos h2]
  obtain ⟨k,hk,e1,e2,e3⟩:=zX7 hn (hf (.inl h2))
  rw [e1,Int.toNat_natCast,←e3]
  exact zY8 _ hk
 rw [if_neg h2,if_neg h2]
 by_cases h3:c.kd=3
 ·rw [if_pos h3,if_pos h3]
  obtain ⟨k,hk,e1,e2,e3⟩:=zX7 hn (hf (.inr h3))
  rw [e1,Int.toNat_natCast,e3]
 ·rw [if_neg h3,if_neg h3]
theorem opL_perm {L:List Lkr} {c:Chr} (hn:(L.map (·.nm)).Nodup) (hf:c.kd=5∨c.kd=6→hasL L c.l.nm):(opL L c).Perm (pL L c):=by
 unfold opL pL
 by_cases h1:c.kd=4
 ·rw [if_pos h1,if_pos h1]
 rw [if_neg h1,if_neg h1]
 by_cases h2:c.kd=5
 ·rw [if_pos h2,if_pos h2]
  obtain ⟨k,hk,e1,e2,e3⟩:=zX8 hn (hf (.inl h2))
  rw [e1,Int.toNat_natCast,←e3]
  exact zY8 _ hk
 rw [if_neg h2,if_neg h2]
 by_cases h3:c.kd=6
 ·rw [if_pos h3,if_pos h3]
  obtain ⟨k,hk,e1,e2,e3⟩:=zX8 hn (hf (.inr h3))
  rw [e1,Int.toNat_natCast,e3]
 ·rw [if_neg h3,if_neg h3]
theorem hasN_perm {N N':List Ndr} {s:ByteArray} (h:N.Perm N'):hasN N s↔hasN N' s:=⟨fun ⟨x,a,b⟩=>⟨x,h.mem_iff.1 a,b⟩,fun ⟨x,a,b⟩=>⟨x,h.mem_iff.2 a,b⟩⟩
theorem hasL_perm {N N':List Lkr} {s:ByteArray} (h:N.Perm N'):hasL N s↔hasL N' s:=⟨fun ⟨x,a,b⟩=>⟨x,h.mem_iff.1 a,b⟩,fun ⟨x,a,b⟩=>⟨x,h.mem_iff.2 a,b⟩⟩
theorem joined_perm {N N':List Lkr} {s:ByteArray} (h:N.Perm N'):zF8 N s↔zF8 N' s:=⟨fun ⟨x,a,b⟩=>⟨x,h.mem_iff.1 a,b⟩,fun ⟨x,a,b⟩=>⟨x,h.mem_iff.2 a,b⟩⟩
theorem pN_perm {N N':List Ndr} (c:Chr) (h:N.Perm N'):(pN N c).Perm (pN N' c):=by
 unfold pN wioN
 split
 ·exact h.append_right _
 split
 ·exact (h.filter _).append_right _
 split
 ·exact h.filter _
 ·exact h
theorem pL_perm {N N':List Lkr} (c:Chr) (h:N.Perm N'):(pL N c).Perm (pL N' c):=by
 unfold pL wioL
 split
 ·exact h.append_right _
 split
 ·exact (h.filter _).append_right _
 split
 ·exact h.filter _
 ·exact h
structure apOK (N:List Ndr) (L:List Lkr) (c:Chr):Prop where
 kd:1≤c.kd∧c.kd≤6
 a1:c.kd=1→¬hasN N c.x.nm
 a2:c.kd=2∨c.kd=3→hasN N c.x.nm
 a4:c.kd=4→¬hasL L c.l.nm
 a5:c.kd=5∨c.kd=6→hasL L c.l.nm
 jo:c.kd=3→¬zF8 L c.x.nm
 vs:VS (pN N c) (pL L c)
theorem apOK.perm {N N':List Ndr} {L L':List Lkr} {c:Chr} (h:apOK N L c) (hN:N.Perm N') (hL:L.Perm L'):apOK N' L' c:=
 ⟨h.kd,fun e q=>h.a1 e ((hasN_perm hN).2 q),fun e=>(hasN_perm hN).1 (h.a2 e),fun e q=>h.a4 e ((hasL_perm hL).2 q),fun e=>(hasL_perm hL).1 (h.a5 e),fun e q=>h.jo e ((joined_perm hL).2 q),h.vs.perm (pN_perm c hN) (pL_perm c hL)⟩
open Classical in
noncomputable def apE (N:List Ndr) (L:List Lkr) (c:Chr):Int:=
 if¬(1≤c.kd∧c.kd≤6) then 11
 else if (c.kd=1∧hasN N c.x.nm)∨(c.kd=4∧hasL L c.l.nm) then 15
 else if ((c.kd=2∨c.kd=3)∧¬hasN N c.x.nm)∨((c.kd=5∨c.kd=6)∧¬hasL L c.l.nm) then 9
 else if c.kd=3∧zF8 L c.x.nm then 13
 else if (c.kd=1∧300≤N.length)∨(c.kd=4∧400≤L.length) then 4
 else if¬netV (opN N c) (opL L c) then 25 else 0
theorem zP5 {N:List Ndr} {L:List Lkr} {c:Chr} (h:VS N L):apE N L c=0↔apOK N L c:=by
 unfold apE
 by_cases h1:1≤c.kd∧c.kd≤6
 case neg=>rw [if_pos h1];exact ⟨fun e=>by omega,fun e=>absurd e.kd h1⟩
 rw [if_neg (by simpa using h1)]
 by_cases h2:(c.kd=1∧hasN N c.x.nm)∨(c.kd=4∧hasL L c.l.nm)
 case pos=>
  rw [if_pos h2]
  refine ⟨fun e=>by omega,fun e=>?_⟩
  rcases h2 with ⟨a,b⟩|⟨a,b⟩
  ·exact absurd b (e.a1 a)
  ·exact absurd b (e.a4 a)
 rw [if_neg h2]
 by_cases h3:((c.kd=2∨c.kd=3)∧¬hasN N c.x.nm)∨((c.kd=5∨c.kd=6)∧¬hasL L c.l.nm)
 case pos=>
  rw [if_pos h3]
  refine ⟨fun e=>by omega,fun e=>?_⟩
  rcases h3 with ⟨a,b⟩|⟨a,b⟩
  ·exact absurd (e.a2 a) b
  ·exact absurd (e.a5 a) b
 rw [if_neg h3]
 by_cases h4:c.kd=3∧zF8 L c.x.nm
 case pos=>rw [if_pos h4];exact ⟨fun e=>by omega,fun e=>absurd h4.2 (e.jo h4.1)⟩
 rw [if_neg h4]
 have b1:c.kd=1→¬hasN N c.x.nm:=fun a b=>h2 (.inl ⟨a,b⟩)
 have b4:c.kd=4→¬hasL L c.l.nm:=fun a b=>h2 (.inr ⟨a,b⟩)
 have b2:c.kd=2∨c.kd=3→hasN N c.x.nm:=fun a=>Classical.byContradiction fun b=>h3 (.inl ⟨a,b⟩)
 have b5:c.kd=5∨c.kd=6→hasL L c.l.nm:=fun a=>Classical.byContradiction fun b=>h3 (.inr ⟨a,b⟩)
 have b3:c.kd=3→¬zF8 L c.x.nm:=fun a b=>h4 ⟨a,b⟩
 by_cases h5:(c.kd=1∧300≤N.length)∨(c.kd=4∧400≤L.length)
 case pos=>
  rw [if_pos h5]
  refine ⟨fun e=>by omega,fun e=>?_⟩
  rcases h5 with ⟨a,b⟩|⟨a,b⟩
  ·have:=e.vs.n300
   unfold pN at this
   rw [if_pos a,List.length_append] at this
   simp at this
   omega
  ·have:=e.vs.l400
   unfold pL at this
   rw [if_pos a,List.length_append] at this
   simp at this
   omega
 rw [if_neg h5]
 have e1:=opN_perm h.nn b2
 have e2:=opL_perm h.ln b5
 by_cases h6:netV (opN N c) (opL L c)
 ·rw [if_neg (by simpa using h6)]
  exact ⟨fun _=>⟨h1,b1,b2,b4,b5,b3,((netV_VS _ _).1 h6).perm e1 e2⟩,fun _=>rfl⟩
 ·rw [if_pos h6]
  exact ⟨fun e=>by omega,fun e=>absurd ((netV_VS _ _).2 (e.vs.perm e1.symm e2.symm)) h6⟩
theorem pN_of {N:List Ndr} {c:Chr} (h:c.kd=4∨c.kd=5∨c.kd=6):pN N c=N:=by unfold pN;rw [if_neg (by omega),if_neg (by omega),if_neg (by omega)]
theorem pL_of {L:List Lkr} {c:Chr} (h:c.kd=1∨c.kd=2∨c.kd=3):pL L c=L:=by unfold pL;rw [if_neg (by omega),if_neg (by omega),if_neg (by omega)]
theorem pN_1 {N:List Ndr} {c:Chr} (h:c.kd=1):pN N c=N++[c.x]:=by unfold pN;rw [if_pos h]
def dropLc (s:ByteArray):Chr:=⟨6,zNd,{ zLk with nm:=s }⟩
def zV4 (s:ByteArray):Chr:=⟨3,{ zNd with nm:=s },zLk⟩
open Classical in
noncomputable def dfF (N:List Ndr) (L:List Lkr) (N':List Ndr) (L':List Lkr):List Chr:=
 (L.filter fun l=>decide (l∉L')).map (fun l=>dropLc l.nm)++((N.filter fun x=>decide (¬hasN N' x.nm)).map (fun x=>zV4 x.nm)++((N'.filter fun x=>decide (hasN N x.nm∧x∉N)).map (fun x=>⟨2,x,zLk⟩)++((N'.filter fun x=>decide (¬hasN N x.nm)).map (fun x=>⟨1,x,zLk⟩)++(L'.filter fun l=>decide (l∉L)).map (fun l=>⟨4,zNd,l⟩))))
theorem zG9 {α β:Type} {f:α→β}:∀{L:List α},(L.map f).Nodup→L.Nodup
 |[],_=>List.nodup_nil
 |a::L,h=>by
  have h':=List.nodup_cons.1 (show (f a::L.map f).Nodup from h)
  exact List.nodup_cons.2 ⟨fun q=>h'.1 (List.mem_map.2 ⟨a,q,rfl⟩),zG9 h'.2⟩
theorem zT4 {α:Type} {L L':List α} (h:L.Nodup) (h':L'.Nodup) (e:∀x,x∈L↔x∈L'):L.Perm L':=(List.perm_ext_iff_of_nodup h h').2 e
theorem dfF_nil {N N':List Ndr} {L L':List Lkr} (h:VS N L) (h':VS N' L'):dfF N L N' L'=[]↔N.Perm N'∧L.Perm L':=by
 constructor
 ·intro e
  unfold dfF at e
  simp only [List.append_eq_nil_iff,List.map_eq_nil_iff,List.filter_eq_nil_iff,decide_eq_true_eq,Classical.not_not,not_and] at e
  obtain ⟨e1,e2,e3,e4,e5⟩:=e
  have s1:∀x,x∈N'→x∈N:=fun x hx=>e3 x hx (e4 x hx)
  refine ⟨zT4 (zG9 h.nn) (zG9 h'.nn) fun x=>⟨fun hx=>?_,s1 x⟩,zT4 (zG9 h.ln) (zG9 h'.ln) fun l=>⟨e1 l,e5 l⟩⟩
  obtain ⟨y,hy,ey⟩:=e2 x hx
  rw [←zK3 h.nn (s1 y hy) hx ey]
  exact hy
 ·rintro ⟨hN,hL⟩
  unfold dfF
  simp only [List.append_eq_nil_iff,List.map_eq_nil_iff,List.filter_eq_nil_iff,decide_eq_true_eq,Classical.not_not,not_and]
  exact ⟨fun l hl=>hL.mem_iff.1 hl,fun x hx=>⟨x,hN.mem_iff.1 hx,rfl⟩,fun x hx _=>hN.mem_iff.2 hx,fun x hx=>⟨x,hN.mem_iff.2 hx,rfl⟩,fun l hl=>hL.mem_iff.2 hl⟩
def tkN (N:List Ndr) (c:Chr):List Ndr:=if c.kd=2∨c.kd=3 then wioN N c.x.nm else N
def adN (c:Chr):List Ndr:=if c.kd=1∨c.kd=2 then [c.x] else []
def tkL (L:List Lkr) (c:Chr):List Lkr:=if c.kd=5∨c.kd=6 then wioL L c.l.nm else L
def adL (c:Chr):List Lkr:=if c.kd=4∨c.kd=5 then [c.l] else []
theorem pN_tk (N:List Ndr) (c:Chr):pN N c=tkN N c++adN c:=by
 unfold pN tkN adN
 by_cases h1:c.kd=1
 ·rw [if_pos h1,if_neg (by omega),if_pos (by omega)]
 rw [if_neg h1]
 by_cases h2:c.kd=2
 ·rw [if_pos h2,if_pos (by omega),if_pos (by omega)]
 rw [if_neg h2]
 by_cases h3:c.kd=3
 ·rw [if_pos h3,if_pos (by omega),if_neg (by omega),List.append_nil]
 ·rw [if_neg h3,if_neg (by omega),if_neg (by omega),List.append_nil]
theorem pL_tk (L:List Lkr) (c:Chr):pL L c=tkL L c++adL c:=by
 unfold pL tkL adL
 by_cases h1:c.kd=4
 ·rw [if_pos h1,if_neg (by omega),if_pos (by omega)]
 rw [if_neg h1]
 by_cases h2:c.kd=5
 ·rw [if_pos h2,if_pos (by omega),if_pos (by omega)]
 rw [if_neg h2]
 by_cases h3:c.kd=6
 ·rw [if_pos h3,if_pos (by omega),if_neg (by omega),List.append_nil]
 ·rw [if_neg h3,if_neg (by omega),if_neg (by omega),List.append_nil]
theorem tkN_app {N:List Ndr} {a b:Chr} (h:a.x.nm≠b.x.nm):tkN (N++adN a) b=tkN N b++adN a:=by
 unfold tkN adN
 by_cases h1:b.kd=2∨b.kd=3
 ·rw [if_pos h1,if_pos h1]
  unfold wioN
  rw [List.filter_append]
  congr 1
  by_cases h2:a.kd=1∨a.kd=2
  ·rw [if_pos h2,List.filter_cons_of_pos (by simpa using h)];rfl
  ·rw [if_neg h2];rfl
 ·rw [if_neg h1,if_neg h1]
theorem tkL_app {L:List Lkr} {a b:Chr} (h:a.l.nm≠b.l.nm):tkL (L++adL a) b=tkL L b++adL a:=by
 unfold tkL adL
 by_cases h1:b.kd=5∨b.kd=6
 ·rw [if_pos h1,if_pos h1]
  unfold wioL
  rw [List.filter_append]
  congr 1
  by_cases h2:a.kd=4∨a.kd=5
  ·rw [if_pos h2,List.filter_cons_of_pos (by simpa using h)];rfl
  ·rw [if_neg h2];rfl
 ·rw [if_neg h1,if_neg h1]
theorem tkN_comm (N:List Ndr) (a b:Chr):tkN (tkN N a) b=tkN (tkN N b) a:=by
 unfold tkN wioN
 split<;> split<;> first |rfl |exact List.filter_comm _ _ _ |(rw [List.filter_filter,List.filter_filter];congr 1;funext x;rw [Bool.and_comm])
theorem tkL_comm (L:List Lkr) (a b:Chr):tkL (tkL L a) b=tkL (tkL L b) a:=by
 unfold tkL wioL
 split<;> split<;> first |rfl |exact List.filter_comm _ _ _ |(rw [List.filter_filter,List.filter_filter];congr 1;funext x;rw [Bool.and_comm])
theorem pN_swap {N:List Ndr} {a b:Chr} (h:a.x.nm≠b.x.nm):(pN (pN N a) b).Perm (pN (pN N b) a):=by
 rw [pN_tk (pN N a) b,pN_tk N a,pN_tk (pN N b) a,pN_tk N b,tkN_app h,tkN_app (Ne.symm h),tkN_comm,List.append_assoc,List.append_assoc]
 exact List.Perm.append_left _ List.perm_append_comm
theorem pL_swap {L:List Lkr} {a b:Chr} (h:a.l.nm≠b.l.nm):(pL (pL L a) b).Perm (pL (pL L b) a):=by
 rw [pL_tk (pL L a) b,pL_tk L a,pL_tk (pL L b) a,pL_tk L b,tkL_app h,tkL_app (Ne.symm h),tkL_comm,List.append_assoc,List.append_assoc]
 exact List.Perm.append_left _ List.perm_append_comm
theorem swap_ok {N:List Ndr} {L:List Lkr} {a b:Chr} (ha:1≤a.kd∧a.kd≤6) (hb:1≤b.kd∧b.kd≤6) (h1:a.kd≤3→b.kd≤3→a.x.nm≠b.x.nm) (h2:¬a.kd≤3→¬b.kd≤3→a.l.nm≠b.l.nm):(pN (pN N a) b).Perm (pN (pN N b) a)∧(pL (pL L a) b).Perm (pL (pL L b) a):=by
 by_cases g1:a.kd≤3
 ·by_cases g2:b.kd≤3
  ·refine ⟨pN_swap (h1 g1 g2),?_⟩
   rw [pL_of (c:=b) (by omega),pL_of (c:=a) (by omega),pL_of (c:=b) (by omega),pL_of (c:=a) (by omega)]
  ·rw [pN_of (c:=b) (by omega),pN_of (c:=b) (by omega),pL_of (c:=a) (by omega),pL_of (c:=a) (by omega)]
   exact ⟨List.Perm.refl _,List.Perm.refl _⟩
 ·by_cases g2:b.kd≤3
  ·rw [pN_of (c:=a) (by omega),pN_of (c:=a) (by omega),pL_of (c:=b) (by omega),pL_of (c:=b) (by omega)]
   exact ⟨List.Perm.refl _,List.Perm.refl _⟩
  ·refine ⟨?_,pL_swap (h2 g1 g2)⟩
   rw [pN_of (c:=b) (by omega),pN_of (c:=a) (by omega),pN_of (c:=b) (by omega),pN_of (c:=a) (by omega)]
def okAll:List Ndr→List Lkr→List Chr→Prop
 |_,_,[]=>True
 |N,L,c::cs=>apOK N L c∧okAll (pN N c) (pL L c) cs
def reN (N:List Ndr) (cs:List Chr):List Ndr:=cs.foldl pN N
def reL (L:List Lkr) (cs:List Chr):List Lkr:=cs.foldl pL L
theorem zM7:∀(cs:List Chr) {N N':List Ndr} {L L':List Lkr},N.Perm N'→L.Perm L'→okAll N L cs→okAll N' L' cs∧(reN N cs).Perm (reN N' cs)∧(reL L cs).Perm (reL L' cs)
 |[],_,_,_,_,hN,hL,_=>⟨trivial,hN,hL⟩
 |c::cs,_,_,_,_,hN,hL,h=>by
  obtain ⟨a,b⟩:=zM7 cs (pN_perm c hN) (pL_perm c hL) h.2
  exact ⟨⟨h.1.perm hN hL,a⟩,b⟩
theorem VS.links {N:List Ndr} {L L1:List Lkr} (h:VS N L) (hs:∀l,l∈L1→l∈L) (hn:(L1.map (·.nm)).Nodup) (hl:L1.length≤400):VS N L1:=
 ⟨h.n300,hl,h.nd,h.nn,fun l q=>h.lk l (hs l q),hn,fun l q=>h.fr l (hs l q),fun l q=>h.tn l (hs l q)⟩
open Go.RowKit Go.Shelf
def BAt (B b:Nat) (l:List UInt8) (w:World):Prop:=Lib.IsBuilderF 106 5 B b (Lib.byteCells l) w
theorem infoBd:(Tryz.prog.info? 5).map (fun i=>(i.zero,i.size,i.bytes))=some (some (.int .u8 0),1,1):=by kernel_rfl
theorem info_partsBd {P:Program} {e:TypeId} {x y z} (h:(P.info? e).map (fun i=>(i.zero,i.size,i.bytes))=some (x,y,z)):∃i,P.info? e=some i∧i.zero=x∧i.size=y∧i.bytes=z:=by
 cases hi:P.info? e with
 |none=>rw [hi] at h;simp at h
 |some i=>rw [hi] at h;simp at h;exact ⟨i,rfl,h.1,h.2.1,h.2.2⟩
theorem BAt.new {B:Nat} (w:World) (hB:B≤w.heap.size):BAt B w.heap.size [] (w.alloc (.cells #[.pointer none,.slice none 0 0] 106)):=by
 refine .inl ⟨hB,.slice none 0 0,?_,?_,by simp [Value.ownBlock]⟩
 ·exact heap_alloc_new w _
 ·exact ⟨rfl,.inl ⟨rfl,rfl⟩⟩
theorem sizeBld:(Tryz.prog.info? 106).map (·.size)=some 2:=by kernel_rfl
theorem liesBld:liesAt Tryz.prog Tryz.prog.depth 106 (2 / Tryz.prog.cellsOf 106) 0 106 1=true:=by kernel_rfl
theorem bne_cell:106≠5:=by decide
set_option maxRecDepth 100000 in
set_option maxHeartbeats 1000000 in
theorem bcopy (B b:Nat) (l:List UInt8) (w:World) (h:BAt B b l w):
 Calls Tryz.prog 100 #[.pointer (some ⟨b,0,none⟩)] w fun e w'=>e= .returned (.tuple #[])∧(Lib.BuilderAtF 106 5 B b (.pointer (some ⟨b,0,none⟩)) (Lib.byteCells l) w'∧Below B w w'∧Lib.OthersKept 5 (some b) w w'):=by
 obtain ⟨j,hj,hjs⟩:=Option.map_eq_some_iff.1 sizeBld
 rcases h with h |h
 ·have c0:=h.cell0
  have f0:=h.frozen0
  have hsh:=h.shape
  have hu:=h.used (.pointer (some ⟨b,0,none⟩))
  have hb:=(bR B w).setCell (p:=⟨b,0,none⟩) h.1 (.pointer (some ⟨b,0,none⟩))
  have hk:=(Lib.OthersKept.refl 5 (some b) w).setCell ⟨b,0,none⟩ rfl (.pointer (some ⟨b,0,none⟩))
  have HH:=LH (And.intro hu (And.intro hb hk))
  clear hu hb hk h
  go_enter Tryz.func100,Tryz.ntmps100
  go_wp2_with fail
  rw [Lib.run_to_unsafe w ⟨b,0,none⟩ Tryz.underlying103 Tryz.underlying174 hj (by rw [hjs];decide) hsh (Nat.zero_lt_succ 1)]
  simp only [Result.andThen]
  rw [Oper.upon_value]
  go_wp2_with fail
  rw [run_callFunc_extern Tryz.func146 (by kernel_rfl) (by kernel_rfl) (by kernel_rfl) (e:=Extern.AbiNoEscape.same) (by kernel_rfl)]
  rw [Lib.run_noEscape]
  simp only [Result.andThen]
  rw [Oper.upon_value]
  go_wp2_with fail
  rw [Lib.run_from_unsafe w ⟨b,0,none⟩ Tryz.underlying174 Tryz.underlying103 hj hsh liesBld]
  simp only [Result.andThen]
  rw [Oper.upon_value]
  go_wp2_with fail
  go_end0
  exact ⟨rfl,HH.out⟩
 ·have c0:=h.cell0
  have HH:=LH h
  clear h
  go_enter Tryz.func100,Tryz.ntmps100
  go_wp2_with fail
  rw [Lib.run_neq_ptr_same w _ Tryz.underlying103 hj]
  simp only [Result.andThen]
  rw [Oper.upon_value]
  go_wp2_with fail
  go_end0
  exact ⟨rfl,HH.out,bR B _,Lib.OthersKept.refl _ _ _⟩
theorem byteCells_app (l m:List UInt8):Lib.byteCells (l++m)=Lib.byteCells l++Lib.byteCells m:=by unfold Lib.byteCells;rw [List.map_append]
theorem strCells_eq (s:ByteArray):Lib.strCells s=Lib.byteCells s.data.toList:=by
 apply List.ext_getElem?
 intro k
 simp [Lib.strCells,Lib.byteCells]
set_option maxRecDepth 100000 in
set_option maxHeartbeats 2000000 in
theorem bstring (B b:Nat) (l:List UInt8) (s:ByteArray) (w:World) (h:BAt B b l w) (hlen:l.length+s.size≤140737488355328) (hBw:B≤w.heap.size):
 Calls Tryz.prog 59 #[.pointer (some ⟨b,0,none⟩),.string s] w fun e w'=>e= .returned (.tuple #[.int .i64 s.size,.nilIface])∧BAt B b (l++s.data.toList) w'∧Below B w w'∧Lib.OthersKept 5 (some b) w w':=by
 obtain ⟨i0,hi,hz0,hz1,hz2⟩:=info_partsBd infoBd
 have S:=LH (bcopy B b l w h)
 have HL:=LH hlen
 have HB:=LH hBw
 clear h hlen hBw
 go_enter Tryz.func59,Tryz.ntmps59
 go_wp2_with (first |(go_at_call 100;(with_reducible refine (S.out).mono ?_)))
 rintro e w1 ⟨rfl,h1,hb1,hk1⟩
 obtain ⟨hB,v,hbk,hown,hne⟩:=h1
 rw [Lib.byteCells_length] at hown
 have c0:w1.cell? ⟨b,0,none⟩=some (.pointer (some ⟨b,0,none⟩)):=by rw [Lib.cell_of_heap hbk];rfl
 have c1:w1.cell? ⟨b,1,none⟩=some v:=by rw [Lib.cell_of_heap hbk];rfl
 go_wp2_with (at_builtin;refine Lib.wpList_append_own_stringF _ rfl _ _ 104 9 rfl B 5 i0 Tryz.underlying104 Tryz.underlying9 hi hz0 hz1 hz2 _ _ _ rfl hown s rfl ?c3 ?c4 ?c5 ?_)
 case c3=>have:=HL.out;unfold maxLen;omega
 case c4=>have:=HL.out;omega
 case c5=>have:=hb1.size;have:=HB.out;omega
 intro v' w2 hown' hgrow _
 have hlt:b<w1.heap.size:=by
  rcases Nat.lt_or_ge b w1.heap.size with h' |h'
  ·exact h'
  ·simp [Array.getElem?_eq_none h'] at hbk
 have hb2:w2.heap[b]?=some (.cells #[.pointer (some ⟨b,0,none⟩),v] 106 (0,0)):=by
  rw [hgrow.block b hlt (fun e=>hne e.symm)]
  exact hbk
 have d0:w2.cell? ⟨b,0,none⟩=some (.pointer (some ⟨b,0,none⟩)):=by rw [Lib.cell_of_heap hb2];rfl
 have d1:w2.cell? ⟨b,1,none⟩=some v:=by rw [Lib.cell_of_heap hb2];rfl
 have f1:w2.frozen? ⟨b,1,none⟩=false:=Lib.frozen_of_heap hb2 1
 obtain ⟨ao,n',cap,rfl⟩:∃ao n' cap,v'= .slice ao n' cap:=by
  rcases hown'.2 with ⟨hv,_⟩|⟨g,cap,cur,fz,hv,_⟩
  ·exact ⟨_,_,_,hv⟩
  ·exact ⟨_,_,_,hv⟩
 have HX:Hid (BAt B b (l++s.data.toList) (w2.setCell ⟨b,1,none⟩ (.slice ao n' cap))∧Below B w (w2.setCell ⟨b,1,none⟩ (.slice ao n' cap))∧Lib.OthersKept 5 (some b) w (w2.setCell ⟨b,1,none⟩ (.slice ao n' cap))):=by
  refine ⟨.inr ?_,?_,(hk1.grown hgrow (Lib.ownsRowF_kind hown)).setCell ⟨b,1,none⟩ rfl _⟩
  ·have:=Lib.BuilderAtF.put (T:=106) (e:=5) hB hb2 (bs':=Lib.byteCells l++Lib.strCells s) (by rw [List.length_append,Lib.byteCells_length,Lib.strCells_length];exact hown') bne_cell
   rw [byteCells_app,←strCells_eq]
   exact this
  ·exact (hb1.grown hgrow (by have:=hb1.size;have:=HB.out;omega) (fun k hk=>(hown.lt k hk).1)).setCell (p:=⟨b,1,none⟩) hB _
 clear hown hown' hgrow hbk hb2 hb1 hk1
 go_wp2_with fail
 go_ret2
 exact ⟨rfl,HX.out⟩
theorem BAt.call {B b:Nat} {l:List UInt8} {w w':World} (h:BAt B b l w) (hb:Below w.heap.size w w'):BAt B b l w':=by
 have key:∀{p:Value} {bs:List Value},Lib.BuilderAtF 106 5 B b p bs w→Lib.BuilderAtF 106 5 B b p bs w':=fun h=>by
  have hlt:=h.lt
  obtain ⟨hB,v,hbk,hown,hne⟩:=h
  exact ⟨hB,v,(hb.block b hlt).trans hbk,hown.kept (zK1 hb none) (by cases hv:v.ownBlock<;> simp),hne⟩
 exact h.elim (fun x=>.inl (key x)) (fun x=>.inr (key x))
theorem BAt.alloc {B b:Nat} {l:List UInt8} {w:World} (h:BAt B b l w) (o:Obj):BAt B b l (w.alloc o):=Lib.IsBuilderF.alloc h o
theorem BAt.lt {B b:Nat} {l:List UInt8} {w:World} (h:BAt B b l w):b<w.heap.size:=h.elim (fun x=>x.lt) (fun x=>x.lt)
theorem Blk.oth {w w':World} {g b:Nat} {t:TypeId} {cs:Array Value} (h:Blk w g t cs) (hk:Lib.OthersKept 5 (some b) w w') (hg:g≠b) (ht:t≠5):Blk w' g t cs:=
 hk g _ h (fun e=>hg (by cases e;rfl)) (fun c fz e=>by cases e;exact ht rfl)
theorem netV_of {D:Nds} {K:Lks} {n m:Nat} (h:netP D n K m):netV (recN D n) (recL K m):=by
 refine netP_eq (D:=D) (n:=n) (K:=K) (m:=m) ⟨?_,?_⟩ h
 ·exact (ndsR_rec _ _ _).symm
 ·exact (lksR_rec _ _ _).symm
theorem netP_of {D:Nds} {K:Lks} {n m:Nat} (h:netV (recN D n) (recL K m)):netP D n K m:=by
 refine netP_eq (D':=D) (n':=n) (K':=K) (m':=m) ⟨?_,?_⟩ h
 ·exact ndsR_rec _ _ _
 ·exact lksR_rec _ _ _
structure TxS (w wr:World) (b:Nat) (cs:Array Value) (l:List UInt8):Prop where
 bt:BAt w.heap.size b l wr
 bl:Below w.heap.size w wr
 nx:Blk wr w.heap.size 52 cs
 ne:w.heap.size≠b
theorem TxS.call {w wr w':World} {b:Nat} {cs:Array Value} {l:List UInt8} (h:TxS w wr b cs l) (hb:Below wr.heap.size wr w'):TxS w w' b cs l:=⟨h.bt.call hb,zA1 h.bl hb,h.nx.call hb,h.ne⟩
theorem TxS.put {w wr:World} {b:Nat} {cs:Array Value} {l:List UInt8} (h:TxS w wr b cs l) (hl:l.length≤300000) (x:List UInt8) (hx:x.length≤3000):
 Calls Tryz.prog 59 #[.pointer (some ⟨b,0,none⟩),.string ⟨x.toArray⟩] wr fun e w'=>(∃v,e= .returned v)∧TxS w w' b cs (l++x):=by
 have hsz:(⟨x.toArray⟩:ByteArray).size=x.length:=rfl
 refine (bstring w.heap.size b l ⟨x.toArray⟩ wr h.bt (by omega) h.bl.size).mono ?_
 rintro e w' ⟨he,h1,h2,h3⟩
 exact ⟨⟨_,he⟩,h1,h.bl.trans h2,h.nx.oth h3 h.ne (by decide),h.ne⟩
def ZN (x:Ndr):Prop:=x.nm.size≤maxLen∧x.T.length≤2000
def ZL (x:Lkr):Prop:=x.nm.size≤maxLen∧x.fr.size≤maxLen∧x.tn.size≤maxLen∧x.sc.size≤maxLen∧x.T.length≤2000
structure ZZ (N:List Ndr) (L:List Lkr):Prop where
 n:N.length≤2000
 l:L.length≤2000
 zn:∀x,x∈N→ZN x
 zl:∀x,x∈L→ZL x
theorem recN_mem {D:Nds} {n k:Nat} (h:k<n):zA7 D k∈recN D n:=List.mem_map.2 ⟨k,List.mem_range.2 h,rfl⟩
theorem zM6 {K:Lks} {n k:Nat} (h:k<n):zA5 K k∈recL K n:=List.mem_map.2 ⟨k,List.mem_range.2 h,rfl⟩
theorem ZZ.sz {D:Nds} {K:Lks} {n m:Nat} (h:ZZ (recN D n) (recL K m)):NetSz D n K m:=by
 refine ⟨by have:=h.n;rwa [zA3] at this,by have:=h.l;rwa [zA4] at this,fun i hi=>(h.zn _ (recN_mem hi)).1,fun i hi=>(h.zl _ (zM6 hi)).1,fun i hi=>(h.zl _ (zM6 hi)).2.1,fun i hi=>(h.zl _ (zM6 hi)).2.2.1,fun i hi=>(h.zl _ (zM6 hi)).2.2.2.1,fun i hi=>?_⟩
 have:=(h.zl _ (zM6 hi)).2.2.2.2
 unfold zA5 at this
 rwa [zD6] at this
theorem ZZ.sn {D:Nds} {K:Lks} {n m:Nat} (h:ZZ (recN D n) (recL K m)):∀k,k<n→D.SN k≤2000:=fun k hk=>by
 have:=(h.zn _ (recN_mem hk)).2
 unfold zA7 at this
 rwa [zD6] at this
theorem ZZ.cn {D:Nds} {K:Lks} {n m:Nat} (h:ZZ (recN D n) (recL K m)):∀k,k<m→K.CN k≤2000:=fun k hk=>h.sz.kc k hk
theorem ZZ.n2 {D:Nds} {K:Lks} {n m:Nat} (h:ZZ (recN D n) (recL K m)):n≤2000:=h.sz.n2
theorem ZZ.m2 {D:Nds} {K:Lks} {n m:Nat} (h:ZZ (recN D n) (recL K m)):m≤2000:=h.sz.m2
theorem zU0 {l:ByteArray} (h:zD1 l.data.toList=true):l.size≤maxLen:=by
 rcases Nat.lt_or_ge 20 l.size with h20 |h20
 ·have e:zD1 l.data.toList=false:=by unfold zD1;rw [zE3,dF (show¬l.size≤20 by omega)];simp
  rw [e] at h;cases h
 ·unfold maxLen;omega
theorem vNd.z {x:Ndr} (h:vNd x):ZN x:=by
 refine ⟨zU0 h.1,?_⟩
 rcases h.2.2.2.2 with ⟨_,_,h1,_⟩|⟨_,_,h1,_⟩
 ·omega
 ·have:=h1.1.2.1;omega
theorem vLk.z {x:Lkr} (h:vLk x):ZL x:=by
 refine ⟨zU0 h.1,zU0 h.2.1,zU0 h.2.2.1,?_,?_⟩
 ·rcases h.2.2.2.2.2.2 with h1 |h1 |h1 |h1
  ·exact zU0 h1.2.2.1
  ·rw [h1.2.2.2.1];exact Nat.zero_le _
  ·rw [h1.2.2.2.1];exact Nat.zero_le _
  ·rw [h1.2.2.2.1];exact Nat.zero_le _
 ·rcases h.2.2.2.2.2.2 with h1 |h1 |h1 |⟨_,_,_,_,_,_,h1⟩
  ·have:=h1.2.2.2.2.2;omega
  ·have:=h1.2.2.2.2.2.2;omega
  ·have:=h1.2.2.2.2.2.2;omega
  ·have:=h1.1.2.1;omega
theorem VS.zz {N:List Ndr} {L:List Lkr} (h:VS N L):ZZ N L:=⟨by have:=h.n300;omega,by have:=h.l400;omega,fun x hx=>(h.nd x hx).z,fun x hx=>(h.lk x hx).z⟩
theorem VS.of {D:Nds} {K:Lks} {n m:Nat} (h:netP D n K m):VS (recN D n) (recL K m):=(netV_VS _ _).1 (netV_of h)
theorem VS.to {D:Nds} {K:Lks} {n m:Nat} (h:VS (recN D n) (recL K m)):netP D n K m:=netP_of ((netV_VS _ _).2 h)
theorem mem_opN {N:List Ndr} {c:Chr} {x:Ndr} (h:x∈opN N c):x∈N∨x=c.x:=by
 unfold opN at h
 split at h
 ·rcases List.mem_append.1 h with h |h
  ·exact .inl h
  ·exact .inr (by simpa using h)
 split at h
 ·rcases List.mem_or_eq_of_mem_set h with h |h
  ·exact .inl h
  ·exact .inr h
 split at h
 ·exact .inl (List.mem_of_mem_eraseIdx h)
 ·exact .inl h
theorem mem_opL {N:List Lkr} {c:Chr} {x:Lkr} (h:x∈opL N c):x∈N∨x=c.l:=by
 unfold opL at h
 split at h
 ·rcases List.mem_append.1 h with h |h
  ·exact .inl h
  ·exact .inr (by simpa using h)
 split at h
 ·rcases List.mem_or_eq_of_mem_set h with h |h
  ·exact .inl h
  ·exact .inr h
 split at h
 ·exact .inl (List.mem_of_mem_eraseIdx h)
 ·exact .inl h
theorem len_opN {N:List Ndr} {c:Chr}:(opN N c).length≤N.length+1:=by
 unfold opN
 split
 ·simp
 split
 ·simp
 split
 ·rw [List.length_eraseIdx];split<;> omega
 ·omega
theorem len_opL {N:List Lkr} {c:Chr}:(opL N c).length≤N.length+1:=by
 unfold opL
 split
 ·simp
 split
 ·simp
 split
 ·rw [List.length_eraseIdx];split<;> omega
 ·omega
theorem ZZ.op {N:List Ndr} {L:List Lkr} {c:Chr} (h:VS N L) (hx:ZN c.x) (hl:ZL c.l):ZZ (opN N c) (opL L c):=by
 refine ⟨by have:=len_opN (N:=N) (c:=c);have:=h.n300;omega,by have:=len_opL (N:=L) (c:=c);have:=h.l400;omega,fun x q=>?_,fun x q=>?_⟩
 ·rcases mem_opN q with q |rfl
  ·exact (h.nd x q).z
  ·exact hx
 ·rcases mem_opL q with q |rfl
  ·exact (h.lk x q).z
  ·exact hl
theorem opN_1 {N:List Ndr} {c:Chr} (h:c.kd=1):opN N c=N++[c.x]:=if_pos h
theorem opN_2 {N:List Ndr} {c:Chr} (h:c.kd=2):opN N c=N.set (fnN N c.x.nm).toNat c.x:=by unfold opN;rw [if_neg (by omega),if_pos h]
theorem opN_3 {N:List Ndr} {c:Chr} (h:c.kd=3):opN N c=N.eraseIdx (fnN N c.x.nm).toNat:=by unfold opN;rw [if_neg (by omega),if_neg (by omega),if_pos h]
theorem zW9 {N:List Ndr} {c:Chr} (h:3<c.kd):opN N c=N:=by unfold opN;rw [if_neg (by omega),if_neg (by omega),if_neg (by omega)]
theorem opL_4 {N:List Lkr} {c:Chr} (h:c.kd=4):opL N c=N++[c.l]:=if_pos h
theorem opL_5 {N:List Lkr} {c:Chr} (h:c.kd=5):opL N c=N.set (fnL N c.l.nm).toNat c.l:=by unfold opL;rw [if_neg (by omega),if_pos h]
theorem opL_6 {N:List Lkr} {c:Chr} (h:c.kd=6):opL N c=N.eraseIdx (fnL N c.l.nm).toNat:=by unfold opL;rw [if_neg (by omega),if_neg (by omega),if_pos h]
theorem zT7 {N:List Lkr} {c:Chr} (h:c.kd≤3):opL N c=N:=by unfold opL;rw [if_neg (by omega),if_neg (by omega),if_neg (by omega)]
theorem zQ5 (D:Nds) (n:Nat) (s:ByteArray):fnN (recN D n) s=fnd D.Nm n s:=by
 unfold fnN
 rw [zA3]
 exact fnd_eq (fun i hi=>by show ((recN D n).getD i zNd).nm=_;rw [zO1 hi];rfl) s
theorem zQ6 (K:Lks) (n:Nat) (s:ByteArray):fnL (recL K n) s=fnd K.Nm n s:=by
 unfold fnL
 rw [zA4]
 exact fnd_eq (fun i hi=>by show ((recL K n).getD i zLk).nm=_;rw [zP8 hi];rfl) s
theorem hasN_fn (N:List Ndr) (s:ByteArray):hasN N s↔0≤fnN N s:=by
 rcases zH2 N s with ⟨h,g⟩|⟨k,hk,e,hn,_⟩
 ·rw [h];exact ⟨fun ⟨x,hx,e⟩=>absurd e (g x hx),fun q=>by omega⟩
 ·rw [e];exact ⟨fun _=>by omega,fun _=>⟨_,zC9 hk,hn⟩⟩
theorem hasL_fn (N:List Lkr) (s:ByteArray):hasL N s↔0≤fnL N s:=by
 rcases zV2 N s with ⟨h,g⟩|⟨k,hk,e,hn,_⟩
 ·rw [h];exact ⟨fun ⟨x,hx,e⟩=>absurd e (g x hx),fun q=>by omega⟩
 ·rw [e];exact ⟨fun _=>by omega,fun _=>⟨_,zC9 hk,hn⟩⟩
theorem zQ4 (K:Lks) (m:Nat) (s:ByteArray):zF8 (recL K m) s↔∃j,j<m∧(K.Fr j=s∨K.To j=s):=by
 constructor
 ·rintro ⟨l,hl,e⟩
  obtain ⟨j,hj,rfl⟩:=List.mem_map.1 hl
  exact ⟨j,List.mem_range.1 hj,e⟩
 ·rintro ⟨j,hj,e⟩
  exact ⟨_,zM6 hj,e⟩
def chv (kd:Int) (D:Nds) (i:Nat) (K:Lks) (j:Nat):List Value:=.int .i64 kd::(D.vals i++K.vals j)
def chA (kd:Int) (D:Nds) (i:Nat) (K:Lks) (j:Nat):Array Value:=#[.int .i64 kd,.string (D.Nm i),.int .i64 (D.Kd i),.int .i64 (D.Ax i),.int .i64 (D.Ay i),.int .i64 (D.Iv i),.int .i64 (D.Gd i),.slice (D.SA i) (D.SN i) (D.SC i),.bool (D.Pt i),.int .i64 (D.Rs i),.string (K.Nm j),.string (K.Fr j),.string (K.To j),.int .i64 (K.Kd j),.int .i64 (K.Ln j),.int .i64 (K.Up j),.int .i64 (K.Dn j),.string (K.Sc j),.int .i64 (K.Wd j),.int .i64 (K.Ht j),.slice (K.CA j) (K.CN j) (K.CC j)]
def chrR (kd:Int) (D:Nds) (i:Nat) (K:Lks) (j:Nat):Chr:=⟨kd,zA7 D i,zA5 K j⟩
def ChsIn (w:World) (A:Option Addr) (n:Nat) (Kd:Nat→Int) (D:Nds) (K:Lks):Prop:=n≤9223372036854775807∧(n=0∨∃b off,A=some ⟨b,off,none⟩∧b<w.heap.size∧∀k,k<n→CellsAt w b (off+k*21) (chv (Kd k) D k K k)∧TabIn w (D.SA k) (D.SN k) (D.SX k) (D.SY k)∧TabIn w (K.CA k) (K.CN k) (K.CX k) (K.CY k))
theorem ChsIn.below {w w':World} {B n:Nat} {A:Option Addr} {Kd:Nat→Int} {D:Nds} {K:Lks} (h:ChsIn w A n Kd D K) (hB:w.heap.size≤B) (hb:Below B w w'):ChsIn w' A n Kd D K:=by
 refine ⟨h.1,?_⟩
 rcases h.2 with h0 |⟨b,off,hA,h1,h2⟩
 ·exact .inl h0
 ·exact .inr ⟨b,off,hA,Nat.lt_of_lt_of_le h1 hb.size,fun k hk=>⟨(h2 k hk).1.below hb (Nat.lt_of_lt_of_le h1 hB),(h2 k hk).2.1.below hB hb,(h2 k hk).2.2.below hB hb⟩⟩
theorem ChsIn.at {w:World} {A:Option Addr} {n k:Nat} {Kd:Nat→Int} {D:Nds} {K:Lks} (h:ChsIn w A n Kd D K) (hk:k<n):∃b off,A=some ⟨b,off,none⟩∧b<w.heap.size∧CellsAt w b (off+k*21) (chv (Kd k) D k K k)∧TabIn w (D.SA k) (D.SN k) (D.SX k) (D.SY k)∧TabIn w (K.CA k) (K.CN k) (K.CX k) (K.CY k):=by
 rcases h.2 with h0 |⟨b,off,hA,h1,h2⟩
 ·omega
 ·exact ⟨b,off,hA,h1,h2 k hk⟩
def recC (Kd:Nat→Int) (D:Nds) (K:Lks) (n:Nat):List Chr:=(List.range n).map fun k=>chrR (Kd k) D k K k
theorem zF3 (Kd:Nat→Int) (D:Nds) (K:Lks) (n:Nat):recC Kd D K (n+1)=recC Kd D K n++[chrR (Kd n) D n K n]:=by unfold recC;rw [List.range_succ,List.map_append];rfl
theorem recC_at {Kd:Nat→Int} {D:Nds} {K:Lks} {n k:Nat} (h:k<n):(recC Kd D K n)[k]?=some (chrR (Kd k) D k K k):=by simp [recC,h]
structure Chm where
 kd:Int
 x:Ndm
 l:Lkm
def chm (p:Chm):List Value:=.int .i64 p.kd::(ncm p.x++lcm' p.l)
def ccs (M:List Chm):List Value:=M.flatMap chm
def Chm.r (p:Chm):Chr:=⟨p.kd,p.x.x,p.l.x⟩
def chx (M:List Chm):List Chr:=M.map Chm.r
theorem ccs_append (L M:List Chm):ccs (L++M)=ccs L++ccs M:=by unfold ccs;rw [List.flatMap_append]
theorem ccs_one (p:Chm):ccs [p]=chm p:=by simp [ccs]
def TabsC (W:World) (M:List Chm):Prop:=∀p,p∈M→TabIn W p.x.A p.x.x.T.length (kX p.x.x.T) (kY p.x.x.T)∧TabIn W p.l.A p.l.x.T.length (kX p.l.x.T) (kY p.l.x.T)
def zNm:Ndm:=⟨zNd,none,0⟩
def zLm:Lkm:=⟨zLk,none,0⟩
def zCm:Chm:=⟨0,zNm,zLm⟩
def kdM (M:List Chm) (k:Nat):Int:=(M.getD k zCm).kd
theorem chx_rec (M:List Chm):recC (kdM M) (ndsM (M.map Chm.x)) (lksM (M.map Chm.l)) M.length=chx M:=by
 unfold recC chx chrR
 apply List.ext_getElem (by simp)
 intro i h1 h2
 have hi:i<M.length:=by simpa using h1
 simp only [List.getElem_map,List.getElem_range]
 unfold Chm.r
 congr 1
 ·unfold kdM;simp [List.getD,hi]
 ·unfold ndsM;rw [ndsR_of];unfold ndx;simp [List.getD,hi]
 ·unfold lksM;rw [lksR_of];unfold lkx;simp [List.getD,hi]
theorem chm_vals (M:List Chm) (k:Nat) (h:k<M.length):chv (kdM M k) (ndsM (M.map Chm.x)) k (lksM (M.map Chm.l)) k=chm (M.getD k zCm):=by
 unfold chv chm
 rw [zT8 _ k (by simpa using h),zU2 _ k (by simpa using h)]
 unfold kdM
 simp [List.getD,h]
theorem changes_of {W:World} {B:Nat} {M:List Chm} {A:Option Addr} {n c:Nat} (hon:W.ownsRow B 34 21 (.slice A n c) M.length (ccs M)) (ht:TabsC W M) (hb:M.length≤300000):n=M.length∧ChsIn W A M.length (kdM M) (ndsM (M.map Chm.x)) (lksM (M.map Chm.l)):=by
 rcases hon.2 with ⟨hv,h0⟩|⟨g,cap,cur,hv,hg,hbk,hnc,hcm,hs,htk⟩
 ·cases hv
  exact ⟨h0.symm,by omega,.inl h0⟩
 ·cases hv
  refine ⟨rfl,by omega,?_⟩
  refine .inr ⟨g,0,rfl,(hon.lt g rfl).2,fun k hk=>?_⟩
  have hk2:M[k]?=some (M.getD k zCm):=by simp [List.getD,hk]
  have hm:=ht _ (List.mem_of_getElem? hk2)
  refine ⟨fun i v hi=>?_,?_,?_⟩
  ·rw [chm_vals M k hk] at hi
   have hi9:i<21:=(List.getElem?_eq_some_iff.1 hi).1
   have hk9:k*21+21≤M.length*21:=by rw [←Nat.succ_mul];exact Nat.mul_le_mul_right 21 hk
   rw [Nat.zero_add,hon.cellAt (k*21+i) (by omega)]
   rw [←hi]
   exact zK4 chm 21 (fun _=>rfl) M k i _ hk2 hi9
  ·have e:(ndx (M.map Chm.x)).getD k zNd=(M.getD k zCm).x.x:=by unfold ndx;simp [List.getD,hk]
   have e2:((M.map Chm.x).getD k ⟨zNd,none,0⟩).A=(M.getD k zCm).x.A:=by simp [List.getD,hk]
   show TabIn W ((M.map Chm.x).getD k ⟨zNd,none,0⟩).A (((ndx (M.map Chm.x)).getD k zNd).T.length) (kX ((ndx (M.map Chm.x)).getD k zNd).T) (kY ((ndx (M.map Chm.x)).getD k zNd).T)
   rw [e,e2]
   exact hm.1
  ·have e:(lkx (M.map Chm.l)).getD k zLk=(M.getD k zCm).l.x:=by unfold lkx;simp [List.getD,hk]
   have e2:((M.map Chm.l).getD k ⟨zLk,none,0⟩).A=(M.getD k zCm).l.A:=by simp [List.getD,hk]
   show TabIn W ((M.map Chm.l).getD k ⟨zLk,none,0⟩).A (((lkx (M.map Chm.l)).getD k zLk).T.length) (kX ((lkx (M.map Chm.l)).getD k zLk).T) (kY ((lkx (M.map Chm.l)).getD k zLk).T)
   rw [e,e2]
   exact hm.2
theorem chgN {w:World} {g:Nat} {ty:TypeId} {x0 x1 x2 x3 x4 x5 x6 x7 x8 x9 x10 x11 x12 x13 x14 x15 x16 x17 x18 x19 x20:Value} (h:Blk w g ty #[x0,x1,x2,x3,x4,x5,x6,x7,x8,x9,x10,x11,x12,x13,x14,x15,x16,x17,x18,x19,x20]):w.cell? ⟨g,1,none⟩=some x1∧w.cell? ⟨g,2,none⟩=some x2∧w.cell? ⟨g,3,none⟩=some x3∧w.cell? ⟨g,4,none⟩=some x4∧w.cell? ⟨g,5,none⟩=some x5∧w.cell? ⟨g,6,none⟩=some x6∧w.cell? ⟨g,7,none⟩=some x7∧w.cell? ⟨g,8,none⟩=some x8∧w.cell? ⟨g,9,none⟩=some x9:=⟨h.cell 1,h.cell 2,h.cell 3,h.cell 4,h.cell 5,h.cell 6,h.cell 7,h.cell 8,h.cell 9⟩
theorem chgL {w:World} {g:Nat} {ty:TypeId} {x0 x1 x2 x3 x4 x5 x6 x7 x8 x9 x10 x11 x12 x13 x14 x15 x16 x17 x18 x19 x20:Value} (h:Blk w g ty #[x0,x1,x2,x3,x4,x5,x6,x7,x8,x9,x10,x11,x12,x13,x14,x15,x16,x17,x18,x19,x20]):w.cell? ⟨g,10,none⟩=some x10∧w.cell? ⟨g,11,none⟩=some x11∧w.cell? ⟨g,12,none⟩=some x12∧w.cell? ⟨g,13,none⟩=some x13∧w.cell? ⟨g,14,none⟩=some x14∧w.cell? ⟨g,15,none⟩=some x15∧w.cell? ⟨g,16,none⟩=some x16∧w.cell? ⟨g,17,none⟩=some x17∧w.cell? ⟨g,18,none⟩=some x18∧w.cell? ⟨g,19,none⟩=some x19∧w.cell? ⟨g,20,none⟩=some x20:=⟨h.cell 10,h.cell 11,h.cell 12,h.cell 13,h.cell 14,h.cell 15,h.cell 16,h.cell 17,h.cell 18,h.cell 19,h.cell 20⟩
variable {w:World} {g:Nat} {t:TypeId} {kd:Int} {C:Nds} {i:Nat} {E:Lks} {j:Nat}
theorem cA0 (h:Blk w g t (chA kd C i E j)):w.cell? ⟨g,0,none⟩=some (.int .i64 kd):=(h.cell 0).trans rfl
theorem cA1 (h:Blk w g t (chA kd C i E j)):w.cell? ⟨g,1,none⟩=some (.string (C.Nm i)):=(h.cell 1).trans rfl
theorem cA10 (h:Blk w g t (chA kd C i E j)):w.cell? ⟨g,10,none⟩=some (.string (E.Nm j)):=(h.cell 10).trans rfl
theorem bxA {v w':World} {g₁ g₃ N:Nat} {t₁ t₃:TypeId} {a b p q:Value} (h1:Hid (Blk v g₁ t₁ #[a,b])) (h2:Hid (Blk v g t (chA kd C i E j))) (h3:Hid (Blk v g₃ t₃ #[p,q])) (h4:Hid (Below w.heap.size w v)) (h5:Hid (N≤v.heap.size)) (h:Below v.heap.size v w'):Hid (Blk w' g₁ t₁ #[a,b])∧Hid (Blk w' g t (chA kd C i E j))∧Hid (Blk w' g₃ t₃ #[p,q])∧Hid (Below w.heap.size w w')∧Hid (N≤w'.heap.size)∧w'.cell? ⟨g₁,0,none⟩=some a∧w'.cell? ⟨g₁,1,none⟩=some b∧w'.cell? ⟨g₃,0,none⟩=some p∧w'.cell? ⟨g₃,1,none⟩=some q∧w'.frozen? ⟨g₃,0,none⟩=false∧w'.frozen? ⟨g₃,1,none⟩=false∧w'.cell? ⟨g,0,none⟩=some (.int .i64 kd):=by
 have n1:=h1.out.call h
 have n2:=h2.out.call h
 have n3:=h3.out.call h
 exact ⟨n1,n2,n3,zA1 h4.out h,nT h5.out h.size,(blk2 n1).1,(blk2 n1).2,(blk2 n3).1,(blk2 n3).2,n3.frozen 0,n3.frozen 1,cA0 n2⟩
end Go.Proofs.YtchakniaoeodmaaGreatDoor

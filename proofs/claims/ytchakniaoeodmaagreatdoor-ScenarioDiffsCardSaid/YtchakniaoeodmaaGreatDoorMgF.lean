/- Merged texts of these proofs: DgP, DgQ. -/
import Derived.Lib.SlicesCompact
import Derived.Lib.RowBridge
namespace Go.Proofs.YtchakniaoeodmaaGreatDoor
set_option linter.unusedVariables false
set_option linter.unusedSimpArgs false
theorem zW4 (d:Array Int) (hs:∀i j,i≤j→j<d.size→d[i]!≤d[j]!):∀m,m≤d.size→(Lib.compactUpTo d m).Pairwise (·<·)∧(∀x,x∈Lib.compactUpTo d m↔∃j,j<m∧x=d[j]!):=by
 intro m
 induction m with
 |zero=>intro _;exact ⟨by simp [Lib.compactUpTo],fun x=>by simp [Lib.compactUpTo]⟩
 |succ m ih=>
  intro hm
  obtain ⟨h1,h2⟩:=ih (by omega)
  rw [Lib.compactUpTo_succ]
  by_cases hk:Lib.keeps d m=true
  ·rw [if_pos hk]
   have hlt:∀x,x∈Lib.compactUpTo d m→x<d[m]! :=by
        intro x hx
        obtain ⟨j,hj,rfl⟩:=(h2 x).1 hx
        have a:=hs j (m - 1) (by omega) (by omega)
        have b:=hs (m - 1) m (by omega) (by omega)
        have c:d[m]!≠d[m - 1]! :=by
         have:=of_decide_eq_true hk
         rcases this with h |h
         ·omega
         ·exact h
        omega
   refine ⟨?_,fun x=>?_⟩
   ·rw [List.pairwise_append]
    exact ⟨h1,List.pairwise_singleton _ _,fun a ha b hb=>by rw [List.mem_singleton.1 hb];exact hlt a ha⟩
   ·rw [List.mem_append,h2,List.mem_singleton]
    constructor
    ·rintro (⟨j,hj,e⟩|e)
     ·exact ⟨j,by omega,e⟩
     ·exact ⟨m,by omega,e⟩
    ·rintro ⟨j,hj,e⟩
     rcases Nat.lt_or_ge j m with h |h
     ·exact .inl ⟨j,h,e⟩
     ·have:j=m:=by omega
      subst this;exact .inr e
  ·rw [if_neg hk,List.append_nil]
   refine ⟨h1,fun x=>?_⟩
   rw [h2]
   have hm0:m≠0∧d[m]! =d[m - 1]! :=by
        have hn:¬(m=0∨d[m]!≠d[m - 1]!):=fun h=>hk (decide_eq_true h)
        constructor
        ·intro h;exact hn (.inl h)
        ·exact Classical.byContradiction fun h=>hn (.inr h)
   constructor
   ·rintro ⟨j,hj,e⟩;exact ⟨j,by omega,e⟩
   ·rintro ⟨j,hj,e⟩
    rcases Nat.lt_or_ge j m with h |h
    ·exact ⟨j,h,e⟩
    ·have:j=m:=by omega
     subst this
     exact ⟨j - 1,by omega,by rw [e,hm0.2]⟩
theorem zR0 (l:List Int) (h:l.Pairwise (·≤·)):(Lib.compact l).Pairwise (·<·)∧∀x,x∈Lib.compact l↔x∈l:=by
 have hs:∀i j,i≤j→j<l.toArray.size→l.toArray[i]!≤l.toArray[j]! :=by
  intro i j hij hj
  have hj':j<l.length:=by simpa using hj
  rw [getElem!_pos l.toArray i (by simp;omega),getElem!_pos l.toArray j hj]
  simp only [List.getElem_toArray]
  rcases Nat.lt_or_ge i j with h1 |h1
  ·exact List.pairwise_iff_getElem.1 h i j (by omega) hj' h1
  ·have:i=j:=by omega
   subst this;exact Int.le_refl _
 obtain ⟨a,b⟩:=zW4 l.toArray hs l.length (by simp)
 refine ⟨a,fun x=>?_⟩
 have:=b x
 unfold Lib.compact
 rw [this]
 constructor
 ·rintro ⟨j,hj,rfl⟩
  rw [getElem!_pos l.toArray j (by simpa using hj)]
  simp
 ·intro hx
  obtain ⟨j,hj,e⟩:=List.mem_iff_getElem.1 hx
  exact ⟨j,hj,by rw [getElem!_pos l.toArray j (by simpa using hj)];simpa using e.symm⟩
def tgt (X Y:Nat→Int) (m:Nat) (i:Int):List Int:=((List.range m).filter (fun k=>decide (X k=i))).map Y
theorem mem_tgt {X Y:Nat→Int} {m:Nat} {i z:Int}:z∈tgt X Y m i↔∃k,k<m∧X k=i∧Y k=z:=by
 unfold tgt
 simp only [List.mem_map,List.mem_filter,List.mem_range,decide_eq_true_eq]
 constructor
 ·rintro ⟨k,⟨h1,h2⟩,h3⟩;exact ⟨k,h1,h2,h3⟩
 ·rintro ⟨k,h1,h2,h3⟩;exact ⟨k,⟨h1,h2⟩,h3⟩
def nx (X Y:Nat→Int) (m:Nat) (i:Int):List Int:=Lib.compact ((tgt X Y m i).mergeSort fun x y=>decide (x≤y))
theorem dg_le_sorted (l:List Int):(l.mergeSort fun x y=>decide (x≤y)).Pairwise (·≤·):=by
 have:=List.pairwise_mergeSort (le:=fun (x y:Int)=>decide (x≤y)) (fun a b c h1 h2=>by simp at*;omega) (fun a b=>by simp;omega) l
 exact this.imp (fun h=>by simpa using h)
theorem zR3 {X Y:Nat→Int} {m:Nat} {i z:Int}:z∈nx X Y m i↔∃k,k<m∧X k=i∧Y k=z:=by
 unfold nx
 rw [(zR0 _ (dg_le_sorted _)).2 z,(List.mergeSort_perm _ _).mem_iff,mem_tgt]
inductive Rch (X Y:Nat→Int) (m:Nat) (S:Int→Prop):Int→Prop
 |src {z:Int} (h:S z):Rch X Y m S z
 |step {k:Nat} (hk:k<m) (h:Rch X Y m S (X k)):Rch X Y m S (Y k)
theorem Rch.closed {X Y:Nat→Int} {m:Nat} {S P:Int→Prop} (h0:∀z,S z→P z) (h1:∀k,k<m→P (X k)→P (Y k)) {z:Int} (h:Rch X Y m S z):P z:=by
 induction h with
 |src h=>exact h0 _ h
 |step hk _ ih=>exact h1 _ hk ih
theorem Rch.mono {X Y:Nat→Int} {m:Nat} {S S':Int→Prop} (h0:∀z,S z→S' z) {z:Int} (h:Rch X Y m S z):Rch X Y m S' z:=by
 induction h with
 |src h=>exact .src (h0 _ h)
 |step hk _ ih=>exact .step hk ih
structure RcI (X Y:Nat→Int) (m:Nat) (S:Int→Prop) (o:Nat→Bool) (st:List Int):Prop where
 hit:∀v:Nat,o v=true→Rch X Y m S (v:Int)
 stk:∀z,z∈st→Rch X Y m S z
 src:∀v:Nat,S (v:Int)→o v=true∨(v:Int)∈st
 cls:∀a b:Nat,o a=true→(∃k,k<m∧X k=(a:Int)∧Y k=(b:Int))→o b=true∨(b:Int)∈st
theorem RcI.new {X Y:Nat→Int} {m:Nat} {S:Int→Prop} {o o':Nat→Bool} {st:List Int} {i:Nat} (h:RcI X Y m S o (st++[(i:Int)])) (ho:∀v,o' v=(o v || decide (v=i))):RcI X Y m S o' (st++nx X Y m (i:Int)):=by
 have hri:Rch X Y m S (i:Int):=h.stk _ (by simp)
 have key:∀b:Nat,(o b=true∨(b:Int)∈st++[(i:Int)])→(o' b=true∨(b:Int)∈st++nx X Y m (i:Int)):=fun b hb=>by
  rcases hb with hb |hb
  ·left;rw [ho];simp [hb]
  ·rcases List.mem_append.1 hb with hb |hb
   ·exact .inr (List.mem_append_left _ hb)
   ·have:b=i:=by have:=List.mem_singleton.1 hb;omega
    subst this;left;rw [ho];simp
 refine ⟨fun v hv=>?_,fun z hz=>?_,fun v hv=>key v (h.src v hv),fun a b ha hab=>?_⟩
 ·rw [ho] at hv
  simp only [Bool.or_eq_true,decide_eq_true_eq] at hv
  rcases hv with hv |hv
  ·exact h.hit v hv
  ·rw [hv];exact hri
 ·rcases List.mem_append.1 hz with hz |hz
  ·exact h.stk z (List.mem_append_left _ hz)
  ·obtain ⟨k,hk,hx,hy⟩:=zR3.1 hz
   rw [←hy]
   exact .step hk (by rw [hx];exact hri)
 ·rw [ho] at ha
  simp only [Bool.or_eq_true,decide_eq_true_eq] at ha
  rcases ha with ha |ha
  ·exact key b (h.cls a b ha hab)
  ·subst ha
   exact .inr (List.mem_append_right _ (zR3.2 hab))
theorem RcI.done {X Y:Nat→Int} {m n:Nat} {S:Int→Prop} {o:Nat→Bool} (h:RcI X Y m S o []) (hX:∀k,k<m→0≤X k∧X k<n) (hY:∀k,k<m→0≤Y k∧Y k<n) (hS:∀z,S z→0≤z) (v:Nat):o v=true↔Rch X Y m S (v:Int):=by
 refine ⟨h.hit v,fun hr=>?_⟩
 have key:∀z:Int,Rch X Y m S z→0≤z∧o z.toNat=true:=fun z hz=>by
  refine hz.closed (P:=fun z=>0≤z∧o z.toNat=true) (fun z hs=>?_) (fun k hk hp=>?_)
  ·have h0:=hS z hs
   refine ⟨h0,?_⟩
   have:=h.src z.toNat (by rw [Int.toNat_of_nonneg h0];exact hs)
   simpa using this
  ·refine ⟨(hY k hk).1,?_⟩
   have:=h.cls _ (Y k).toNat hp.2 ⟨k,hk,by rw [Int.toNat_of_nonneg hp.1],by rw [Int.toNat_of_nonneg (hY k hk).1]⟩
   simpa using this
 have:=(key _ hr).2
 simpa using this
def rdyB (X Y:Nat→Int) (m:Nat) (L:List Int) (v:Nat):Bool:=!(L.contains (v:Int))&&(List.range m).all fun k=>!(decide (Y k=(v:Int))) || L.contains (X k)
theorem zI4 {X Y:Nat→Int} {m:Nat} {L:List Int} {v:Nat}:rdyB X Y m L v=true↔(v:Int)∉L∧∀k,k<m→Y k=(v:Int)→X k∈L:=by
 unfold rdyB
 simp only [Bool.and_eq_true,Bool.not_eq_true',List.all_eq_true,List.mem_range,Bool.or_eq_true,decide_eq_false_iff_not,List.contains_iff_mem]
 constructor
 ·rintro ⟨h1,h2⟩
  refine ⟨fun h=>?_,fun k hk hy=>?_⟩
  ·rw [List.contains_iff_mem.2 h] at h1;cases h1
  ·rcases h2 k hk with h |h
   ·exact absurd hy h
   ·exact h
 ·rintro ⟨h1,h2⟩
  refine ⟨?_,fun k hk=>?_⟩
  ·cases e:L.contains (v:Int) with
   |false=>rfl
   |true=>exact absurd (List.contains_iff_mem.1 e) h1
  ·by_cases hy:Y k=(v:Int)
   ·exact .inr (h2 k hk hy)
   ·exact .inl hy
def pick (n:Nat) (X Y:Nat→Int) (m:Nat) (L:List Int):Option Nat:=(List.range n).find? (rdyB X Y m L)
def ordL (n:Nat) (X Y:Nat→Int) (m:Nat):Nat→List Int→List Int
 |0,L=>L
 |f+1,L=>match pick n X Y m L with
  |none=>L
  |some v=>ordL n X Y m f (L++[(v:Int)])
theorem zH9 {n:Nat} {X Y:Nat→Int} {m:Nat} {L:List Int} {v:Nat} (h:pick n X Y m L=some v):v<n∧rdyB X Y m L v=true∧∀u,u<v→rdyB X Y m L u=false:=by
 unfold pick at h
 have h1:=List.find?_some h
 have h2:=List.mem_of_find?_eq_some h
 rw [List.mem_range] at h2
 refine ⟨h2,h1,fun u hu=>?_⟩
 obtain ⟨_,as,bs,e,hn⟩:=List.find?_eq_some_iff_append.1 h
 have hl:as.length=v:=by
  have:=congrArg (fun (l:List Nat)=>l[as.length]?) e
  simp only [List.getElem?_append_right (Nat.le_refl _),Nat.sub_self,List.getElem?_cons_zero] at this
  have hlt:as.length<n:=by
   have h3:=congrArg List.length e
   simp at h3;omega
  rw [List.getElem?_range hlt] at this
  exact Option.some.inj this
 have hu2:u∈as:=by
  have:=congrArg (fun (l:List Nat)=>l[u]?) e
  rw [List.getElem?_range (by omega),List.getElem?_append_left (by omega)] at this
  exact List.mem_of_getElem? this.symm
 have:=hn u hu2
 simpa using this
theorem pick_none {n:Nat} {X Y:Nat→Int} {m:Nat} {L:List Int} (h:pick n X Y m L=none):∀u,u<n→rdyB X Y m L u=false:=fun u hu=>by
 have:=List.find?_eq_none.1 h u (List.mem_range.2 hu)
 simpa using this
theorem pick_eq {n:Nat} {X Y:Nat→Int} {m:Nat} {L:List Int} {v:Nat} (hv:v<n) (h:rdyB X Y m L v=true) (h2:∀u,u<v→rdyB X Y m L u=false):pick n X Y m L=some v:=by
 cases e:pick n X Y m L with
 |none=>rw [pick_none e v hv] at h;cases h
 |some u=>
  obtain ⟨h3,h4,h5⟩:=zH9 e
  rcases Nat.lt_trichotomy u v with h6 |h6 |h6
  ·rw [h2 u h6] at h4;cases h4
  ·rw [h6]
  ·rw [h5 v h6] at h;cases h
structure OrdP (n:Nat) (X Y:Nat→Int) (m:Nat) (L:List Int):Prop where
 nd:L.Nodup
 bd:∀z,z∈L→0≤z∧z<n
 pre:∀(A:List Int) (z:Int) (B:List Int),L=A++z::B→∀k,k<m→Y k=z→X k∈A
theorem OrdP.nil (n:Nat) (X Y:Nat→Int) (m:Nat):OrdP n X Y m []:=⟨List.nodup_nil,fun z h=>absurd h (by simp),fun A z B h=>by simp at h⟩
theorem OrdP.closed {n:Nat} {X Y:Nat→Int} {m:Nat} {L:List Int} (h:OrdP n X Y m L) {z:Int} (hz:z∈L) {k:Nat} (hk:k<m) (hy:Y k=z):X k∈L:=by
 obtain ⟨A,B,e⟩:=List.append_of_mem hz
 rw [e]
 exact List.mem_append_left _ (h.pre A z B e k hk hy)
theorem nd_sub {l r:List Nat} (h:l.Nodup) (hs:l ⊆ r):l.length≤r.length:=by
 induction l generalizing r with
 |nil=>simp
 |cons a l ih=>
  rw [List.nodup_cons] at h
  have h1:=ih (r:=r.erase a) h.2 (fun x hx=>by
   have hne:x≠a:=fun e=>h.1 (by rw [←e];exact hx)
   exact (List.mem_erase_of_ne hne).2 (hs (List.mem_cons_of_mem _ hx)))
  have ha:a∈r:=hs (by simp)
  have h2:=List.length_erase_of_mem ha
  have h3:=List.length_pos_of_mem ha
  simp;omega
theorem OrdP.len {n:Nat} {X Y:Nat→Int} {m:Nat} {L:List Int} (h:OrdP n X Y m L):L.length≤n:=by
 have h1:(L.map Int.toNat).Nodup:=by
  rw [List.Nodup,List.pairwise_map]
  refine h.nd.imp_of_mem (fun ha hb hab e=>hab ?_)
  have:=(h.bd _ ha).1
  have:=(h.bd _ hb).1
  omega
 have h2:(L.map Int.toNat) ⊆ List.range n:=fun x hx=>by
  obtain ⟨z,hz,rfl⟩:=List.mem_map.1 hx
  have:=h.bd z hz
  rw [List.mem_range];omega
 have h3:=nd_sub h1 h2
 simpa using h3
theorem OrdP.app {n:Nat} {X Y:Nat→Int} {m:Nat} {L:List Int} (h:OrdP n X Y m L) {v:Nat} (hv:v<n) (hr:rdyB X Y m L v=true):OrdP n X Y m (L++[(v:Int)]):=by
 obtain ⟨h1,h2⟩:=zI4.1 hr
 refine ⟨?_,fun z hz=>?_,fun A z B e k hk hy=>?_⟩
 ·rw [List.nodup_append]
  refine ⟨h.nd,by simp,fun a ha b hb e=>?_⟩
  rw [List.mem_singleton] at hb
  exact h1 (by rw [←hb,←e];exact ha)
 ·rcases List.mem_append.1 hz with hz |hz
  ·exact h.bd z hz
  ·rw [List.mem_singleton.1 hz];omega
 ·rcases List.eq_nil_or_concat B with hB |⟨B',b,hB⟩
  ·subst hB
   have:=List.append_inj' e rfl
   rw [←this.1]
   have hz:(v:Int)=z:=by simpa using this.2
   exact h2 k hk (by rw [hz];exact hy)
  ·subst hB
   have e2:L++[(v:Int)]=(A++z::B')++[b]:=by rw [e];simp
   have:=List.append_inj' e2 rfl
   exact h.pre A z B' this.1 k hk hy
theorem ordL_spec {n:Nat} {X Y:Nat→Int} {m:Nat}:∀(f:Nat) (L:List Int),OrdP n X Y m L→OrdP n X Y m (ordL n X Y m f L)∧(n≤L.length+f→pick n X Y m (ordL n X Y m f L)=none):=by
 intro f
 induction f with
 |zero=>
  intro L h
  refine ⟨h,fun hl=>?_⟩
  show pick n X Y m L=none
  cases e:pick n X Y m L with
  |none=>rfl
  |some v=>
   obtain ⟨h1,h2,_⟩:=zH9 e
   have:=(h.app h1 h2).len
   simp at this;omega
 |succ f ih=>
  intro L h
  unfold ordL
  cases e:pick n X Y m L with
  |none=>exact ⟨h,fun _=>e⟩
  |some v=>
   obtain ⟨h1,h2,_⟩:=zH9 e
   obtain ⟨h3,h4⟩:=ih (L++[(v:Int)]) (h.app h1 h2)
   exact ⟨h3,fun hl=>h4 (by simp;omega)⟩
theorem ordL_add {n:Nat} {X Y:Nat→Int} {m:Nat}:∀(f g:Nat) (L:List Int),OrdP n X Y m L→n≤L.length+f→f≤g→ordL n X Y m g L=ordL n X Y m f L:=by
 intro f
 induction f with
 |zero=>
  intro g L h hl hg
  cases g with
  |zero=>rfl
  |succ g=>
   have hp:=(ordL_spec 0 L h).2 hl
   have hp':pick n X Y m L=none:=hp
   unfold ordL
   rw [hp']
 |succ f ih=>
  intro g L h hl hg
  cases g with
  |zero=>omega
  |succ g=>
   unfold ordL
   cases e:pick n X Y m L with
   |none=>rfl
   |some v=>
    obtain ⟨h1,h2,_⟩:=zH9 e
    exact ih g (L++[(v:Int)]) (h.app h1 h2) (by simp;omega) (by omega)
def ordO (n:Nat) (X Y:Nat→Int) (m:Nat):List Int:=ordL n X Y m n []
def OnWay (n:Nat) (X Y:Nat→Int) (m:Nat) (L:List Int):Prop:=OrdP n X Y m L∧ordL n X Y m n L=ordO n X Y m
theorem OnWay.start (n:Nat) (X Y:Nat→Int) (m:Nat):OnWay n X Y m []:=⟨.nil n X Y m,rfl⟩
theorem OnWay.step {n:Nat} {X Y:Nat→Int} {m:Nat} {L:List Int} (h:OnWay n X Y m L) {v:Nat} (e:pick n X Y m L=some v):OnWay n X Y m (L++[(v:Int)]):=by
 obtain ⟨h1,h2,_⟩:=zH9 e
 have ha:=h.1.app h1 h2
 refine ⟨ha,?_⟩
 rw [←h.2]
 cases n with
 |zero=>omega
 |succ n=>
  conv=>rhs;unfold ordL
  rw [e]
  exact ordL_add n (n+1) _ ha (by simp;omega) (by omega)
theorem OnWay.done {n:Nat} {X Y:Nat→Int} {m:Nat} {L:List Int} (h:OnWay n X Y m L) (e:pick n X Y m L=none):L=ordO n X Y m:=by
 rw [←h.2]
 cases n with
 |zero=>rfl
 |succ n=>unfold ordL;rw [e]
def ins (k:Int) (L:List Int):List Int:=L.take (L.countP (·<k))++k::L.drop (L.countP (·<k))
theorem mem_ins {k z:Int} {L:List Int}:z∈ins k L↔z=k∨z∈L:=by
 unfold ins
 conv=>rhs;rw [←List.take_append_drop (L.countP (·<k)) L]
 simp only [List.mem_append,List.mem_cons]
 constructor
 ·rintro (h |h |h)
  ·exact .inr (.inl h)
  ·exact .inl h
  ·exact .inr (.inr h)
 ·rintro (h |h |h)
  ·exact .inr (.inl h)
  ·exact .inl h
  ·exact .inr (.inr h)
theorem countP_zero {k:Int} {L:List Int} (h:∀z,z∈L→¬z<k):L.countP (·<k)=0:=by
 rw [List.countP_eq_zero]
 intro a ha
 simp;have:=h a ha;omega
theorem ins_sorted {k:Int} {L:List Int} (h:L.Pairwise (·<·)) (hk:k∉L):(ins k L).Pairwise (·<·):=by
 induction L with
 |nil=>simp [ins]
 |cons a r ih=>
  rw [List.pairwise_cons] at h
  have hkr:k∉r:=fun e=>hk (List.mem_cons_of_mem _ e)
  have hka:k≠a:=fun e=>hk (by rw [e];simp)
  by_cases hlt:a<k
  ·have e:ins k (a::r)=a::ins k r:=by
        unfold ins
        rw [List.countP_cons_of_pos (by simp;omega)]
        simp
   rw [e,List.pairwise_cons]
   refine ⟨fun z hz=>?_,ih h.2 hkr⟩
   rcases mem_ins.1 hz with hz |hz
   ·omega
   ·exact h.1 z hz
  ·have e:ins k (a::r)=k::a::r:=by
        unfold ins
        rw [countP_zero (fun z hz=>by
         rcases List.mem_cons.1 hz with hz |hz
         ·omega
         ·have:=h.1 z hz;omega)]
        simp
   rw [e,List.pairwise_cons]
   refine ⟨fun z hz=>?_,List.pairwise_cons.2 h⟩
   rcases List.mem_cons.1 hz with hz |hz
   ·omega
   ·have:=h.1 z hz;omega
def wt (X Y:Nat→Int) (m j:Nat) (L:List Int) (k:Int):Nat:=((List.range j).filter fun (i:Nat)=>!(L.contains (i:Int))&&(nx X Y m (i:Int)).contains k).length
theorem wt_pop {X Y:Nat→Int} {m:Nat} {L:List Int} {i:Nat} (hi:(i:Int)∉L) (k:Int):∀n,wt X Y m n L k=wt X Y m n (L++[(i:Int)]) k+(if i<n∧k∈nx X Y m (i:Int) then 1 else 0):=by
 intro n
 induction n with
 |zero=>simp [wt]
 |succ n ih=>
  have e:∀M:List Int,wt X Y m (n+1) M k=wt X Y m n M k+(if (n:Int)∉M∧k∈nx X Y m (n:Int) then 1 else 0):=fun M=>by
   unfold wt
   rw [List.range_succ,List.filter_append,List.length_append]
   congr 1
   by_cases h1:(n:Int)∈M<;> by_cases h2:k∈nx X Y m (n:Int)<;> simp [h1,h2]
  rw [e,e,ih]
  by_cases hin:n=i
  ·subst hin
   have h1:¬(n<n):=by omega
   have h2:(n:Int)∈L++[(n:Int)]:=by simp
   by_cases h3:k∈nx X Y m (n:Int)
   ·simp [hi,h3]
   ·simp [h3]
  ·have h2:((n:Int)∈L++[(i:Int)])↔(n:Int)∈L:=by
        rw [List.mem_append,List.mem_singleton]
        constructor
        ·rintro (h |h)
         ·exact h
         ·omega
        ·exact .inl
   have h4:(i<n+1∧k∈nx X Y m (i:Int))↔(i<n∧k∈nx X Y m (i:Int)):=by
        constructor
        ·rintro ⟨a,b⟩;exact ⟨by omega,b⟩
        ·rintro ⟨a,b⟩;exact ⟨by omega,b⟩
   simp only [h2,h4]
   omega
structure EdOK (n:Nat) (X Y:Nat→Int) (m:Nat):Prop where
 x:∀k,k<m→0≤X k∧X k<n
 y:∀k,k<m→0≤Y k∧Y k<n
theorem wt_none {X Y:Nat→Int} {m n:Nat} (hE:EdOK n X Y m) {L:List Int} {k:Int}:wt X Y m n L k=0↔∀j,j<m→Y j=k→X j∈L:=by
 unfold wt
 rw [List.length_eq_zero_iff,List.filter_eq_nil_iff]
 constructor
 ·intro h j hj hy
  have hx:=hE.x j hj
  have:=h (X j).toNat (List.mem_range.2 (by omega))
  rw [Int.toNat_of_nonneg hx.1] at this
  have h2:k∈nx X Y m (X j):=zR3.2 ⟨j,hj,rfl,hy⟩
  simpa [h2] using this
 ·intro h i hi
  by_cases h2:k∈nx X Y m (i:Int)
  ·obtain ⟨j,hj,hx,hy⟩:=zR3.1 h2
   have:=h j hj hy
   rw [hx] at this
   simp [this]
  ·simp [h2]
theorem rdy_wt {X Y:Nat→Int} {m n:Nat} (hE:EdOK n X Y m) {L:List Int} {v:Nat}:rdyB X Y m L v=true↔(v:Int)∉L∧wt X Y m n L (v:Int)=0:=by
 rw [zI4,wt_none hE]
structure KnI (n:Nat) (X Y:Nat→Int) (m:Nat) (L R:List Int) (W:Nat→Int):Prop where
 way:OnWay n X Y m L
 srt:R.Pairwise (·<·)
 mem:∀z,z∈R↔∃v:Nat,v<n∧z=(v:Int)∧rdyB X Y m L v=true
 wts:∀k,k<n→W k=(wt X Y m n L (k:Int):Int)
structure KmI (n:Nat) (X Y:Nat→Int) (m:Nat) (L:List Int) (i:Nat) (R0 p R:List Int) (W:Nat→Int):Prop where
 srt:R.Pairwise (·<·)
 mem:∀z,z∈R↔z∈R0∨(z∈p∧wt X Y m n (L++[(i:Int)]) z=0)
 wts:∀k,k<n→W k=(wt X Y m n (if (k:Int)∈p then L++[(i:Int)] else L) (k:Int):Int)
theorem KnI.bd {n:Nat} {X Y:Nat→Int} {m:Nat} {L R:List Int} {W:Nat→Int} (h:KnI n X Y m L R W):∀z,z∈R→0≤z∧z<n:=fun z hz=>by
 obtain ⟨v,h1,h2,_⟩:=(h.mem z).1 hz
 omega
theorem KnI.head {n:Nat} {X Y:Nat→Int} {m:Nat} {L R:List Int} {W:Nat→Int} {z:Int} (h:KnI n X Y m L (z::R) W):∃i:Nat,i<n∧z=(i:Int)∧pick n X Y m L=some i:=by
 obtain ⟨v,h1,h2,h3⟩:=(h.mem z).1 (by simp)
 refine ⟨v,h1,h2,pick_eq h1 h3 fun u hu=>?_⟩
 cases e:rdyB X Y m L u with
 |false=>rfl
 |true=>
  have:=(h.mem (u:Int)).2 ⟨u,by omega,rfl,e⟩
  have hs:=List.pairwise_cons.1 h.srt
  rcases List.mem_cons.1 this with h4 |h4
  ·omega
  ·have:=hs.1 _ h4;omega
theorem KnI.empty {n:Nat} {X Y:Nat→Int} {m:Nat} {L:List Int} {W:Nat→Int} (h:KnI n X Y m L [] W):L=ordO n X Y m:=by
 refine h.way.done ?_
 cases e:pick n X Y m L with
 |none=>rfl
 |some v=>
  obtain ⟨h1,h2,_⟩:=zH9 e
  exact absurd ((h.mem (v:Int)).2 ⟨v,h1,rfl,h2⟩) (by simp)
theorem KmI.bd {n:Nat} {X Y:Nat→Int} {m:Nat} {L R0 p R:List Int} {W:Nat→Int} {i:Nat} (hE:EdOK n X Y m) (h:KmI n X Y m L i R0 p R W) (h0:∀z,z∈R0→0≤z∧z<n) (hp:∀z,z∈p→z∈nx X Y m (i:Int)):∀z,z∈R→0≤z∧z<n:=fun z hz=>by
 rcases (h.mem z).1 hz with h1 |⟨h1,_⟩
 ·exact h0 z h1
 ·obtain ⟨k,hk,_,hy⟩:=zR3.1 (hp z h1)
  have:=hE.y k hk
  omega
theorem KmI.wts' {n:Nat} {X Y:Nat→Int} {m:Nat} {L R0 p R:List Int} {W W':Nat→Int} {i k:Nat} (h:KmI n X Y m L i R0 p R W) (hk:W' k=(wt X Y m n (L++[(i:Int)]) (k:Int):Int)) (ho:∀j,j≠k→W' j=W j):∀j,j<n→W' j=(wt X Y m n (if (j:Int)∈p++[(k:Int)] then L++[(i:Int)] else L) (j:Int):Int):=fun j hj=>by
 by_cases hjk:j=k
 ·subst hjk
  rw [if_pos (by simp)];exact hk
 ·rw [ho j hjk,h.wts j hj]
  have:((j:Int)∈p++[(k:Int)])↔(j:Int)∈p:=by
   rw [List.mem_append,List.mem_singleton]
   constructor
   ·rintro (h |h)
    ·exact h
    ·omega
   ·exact .inl
  simp only [this]
theorem KmI.goes {n:Nat} {X Y:Nat→Int} {m:Nat} {L R0 p R:List Int} {W W':Nat→Int} {i k:Nat} (h:KmI n X Y m L i R0 p R W) (hk:W' k=(wt X Y m n (L++[(i:Int)]) (k:Int):Int)) (ho:∀j,j≠k→W' j=W j) (hz:W' k=0) (hkR:(k:Int)∉R):KmI n X Y m L i R0 (p++[(k:Int)]) (ins (k:Int) R) W':=by
 refine ⟨ins_sorted h.srt hkR,fun z=>?_,h.wts' hk ho⟩
 rw [mem_ins,h.mem z]
 constructor
 ·rintro (h1 |h1 |⟨h1,h2⟩)
  ·refine .inr ⟨by rw [h1];simp,?_⟩
   rw [h1];omega
  ·exact .inl h1
  ·exact .inr ⟨List.mem_append_left _ h1,h2⟩
 ·rintro (h1 |⟨h1,h2⟩)
  ·exact .inr (.inl h1)
  ·rcases List.mem_append.1 h1 with h1 |h1
   ·exact .inr (.inr ⟨h1,h2⟩)
   ·exact .inl (List.mem_singleton.1 h1)
theorem KnI.fresh {n:Nat} {X Y:Nat→Int} {m:Nat} {L R0 p R:List Int} {W0 W:Nat→Int} {i:Nat} (h0:KnI n X Y m L ((i:Int)::R0) W0) (hiL:(i:Int)∉L) (h:KmI n X Y m L i R0 p R W) {k:Nat} (hk:(k:Int)∈nx X Y m (i:Int)) (hkp:(k:Int)∉p):(k:Int)∉R:=fun e=>by
 rcases (h.mem _).1 e with h1 |⟨h1,_⟩
 ·obtain ⟨v,hv,e2,hr⟩:=(h0.mem (k:Int)).1 (List.mem_cons_of_mem _ h1)
  obtain ⟨j,hj,hx,hy⟩:=zR3.1 hk
  have:=(zI4.1 hr).2 j hj (by rw [hy,e2])
  rw [hx] at this
  exact hiL this
 ·exact hkp h1
theorem KnI.next {n:Nat} {X Y:Nat→Int} {m:Nat} (hE:EdOK n X Y m) {L R0 R:List Int} {W0 W:Nat→Int} {i:Nat} (h0:KnI n X Y m L ((i:Int)::R0) W0) (h:KmI n X Y m L i R0 (nx X Y m (i:Int)) R W):KnI n X Y m (L++[(i:Int)]) R W:=by
 obtain ⟨i',hi1,hi2,hp⟩:=h0.head
 have:i'=i:=by omega
 subst this
 obtain ⟨_,hri,_⟩:=zH9 hp
 obtain ⟨hiL,hipre⟩:=zI4.1 hri
 have hs:=List.pairwise_cons.1 h0.srt
 refine ⟨h0.way.step hp,h.srt,fun z=>?_,fun k hk=>?_⟩
 ·rw [h.mem z]
  constructor
  ·rintro (h1 |⟨h1,h2⟩)
   ·obtain ⟨v,hv,e,hr⟩:=(h0.mem z).1 (List.mem_cons_of_mem _ h1)
    refine ⟨v,hv,e,zI4.2 ?_⟩
    obtain ⟨a,b⟩:=zI4.1 hr
    have:=hs.1 z h1
    refine ⟨fun hm=>?_,fun k hk hy=>List.mem_append_left _ (b k hk hy)⟩
    rcases List.mem_append.1 hm with hm |hm
    ·exact a hm
    ·rw [List.mem_singleton] at hm;omega
   ·obtain ⟨j,hj,hx,hy⟩:=zR3.1 h1
    have hyj:=hE.y j hj
    refine ⟨z.toNat,by omega,by omega,(rdy_wt hE).2 ⟨fun hm=>?_,by rw [Int.toNat_of_nonneg (by omega)];exact h2⟩⟩
    rw [Int.toNat_of_nonneg (by omega)] at hm
    rcases List.mem_append.1 hm with hm |hm
    ·have:=h0.way.1.closed hm hj hy
     rw [hx] at this
     exact hiL this
    ·rw [List.mem_singleton] at hm
     have:=hipre j hj (by rw [hy,hm])
     rw [hx] at this
     exact hiL this
  ·rintro ⟨v,hv,e,hr⟩
   obtain ⟨a,b⟩:=zI4.1 hr
   by_cases hz:z∈nx X Y m (i':Int)
   ·exact .inr ⟨hz,by rw [e];exact ((rdy_wt hE).1 hr).2⟩
   ·left
    have hzi:z≠(i':Int):=fun e2=>a (by rw [←e,e2];simp)
    have hzr:z∈(i':Int)::R0:=(h0.mem z).2 ⟨v,hv,e,zI4.2 ⟨fun hm=>a (List.mem_append_left _ hm),fun k hk hy=>by
     rcases List.mem_append.1 (b k hk hy) with h1 |h1
     ·exact h1
     ·rw [List.mem_singleton] at h1
      exact absurd (zR3.2 ⟨k,hk,h1,by rw [hy,e]⟩) hz⟩⟩
    rcases List.mem_cons.1 hzr with h1 |h1
    ·exact absurd h1 hzi
    ·exact h1
 ·rw [h.wts k hk]
  by_cases hkn:(k:Int)∈nx X Y m (i':Int)
  ·rw [if_pos hkn]
  ·rw [if_neg hkn,wt_pop hiL (k:Int) n,if_neg (fun e=>hkn e.2)]
   rfl
theorem KnI.start {n:Nat} {X Y:Nat→Int} {m:Nat} (hE:EdOK n X Y m) {R:List Int} {W:Nat→Int} (hR:R.Pairwise (·<·)) (hm:∀z,z∈R↔∃v:Nat,v<n∧z=(v:Int)∧W v=0) (hW:∀k,k<n→W k=(wt X Y m n [] (k:Int):Int)):KnI n X Y m [] R W:=by
 refine ⟨.start n X Y m,hR,fun z=>?_,hW⟩
 rw [hm z]
 constructor
 ·rintro ⟨v,hv,e,h⟩
  exact ⟨v,hv,e,(rdy_wt hE).2 ⟨by simp,by have:=hW v hv;omega⟩⟩
 ·rintro ⟨v,hv,e,h⟩
  exact ⟨v,hv,e,by have:=hW v hv;have:=((rdy_wt hE).1 h).2;omega⟩
end Go.Proofs.YtchakniaoeodmaaGreatDoor

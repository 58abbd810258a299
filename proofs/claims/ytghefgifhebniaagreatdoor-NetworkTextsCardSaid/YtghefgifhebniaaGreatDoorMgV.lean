/- Merged texts of these proofs: LnP, Wds, LnT. -/
import Derived.Test.YtghefgifhebniaaGreatDoorMgS
import Derived.Test.YtghefgifhebniaaGreatDoorMgJ
import Derived.Test.YtghefgifhebniaaGreatDoorMgQ
import Derived.Test.YtghefgifhebniaaGreatDoorMgI
namespace Go.Proofs.YtghefgifhebniaaGreatDoor
open Go
set_option linter.unusedVariables false
set_option linter.unusedSimpArgs false
theorem zG8 {v:Int} (h:near v):zE3 v:=zG7 h.1 h.2
def nBA (v:Int):ByteArray:=⟨(Lib.itoa v).toArray⟩
def tBA (T:List (Int×Int)):ByteArray:=⟨(txL (kX T) (kY T) T.length).toArray⟩
def ndB (x:Ndr):List ByteArray:=
 ⟨(ndK x).toArray⟩::x.nm::nBA x.ax::nBA x.ay::nBA x.iv::nBA x.gd::(if x.kd=3 then [] else if x.kd=2 then [if x.pt then nBA x.rs else ⟨#[45]⟩,tBA x.T] else [tBA x.T])
def lkB (x:Lkr):List ByteArray:=
 ⟨(lkK x).toArray⟩::x.nm::x.fr::x.tn::(if x.kd=1 then [nBA x.ln,nBA x.up,nBA x.dn,x.sc] else if x.kd=2 then [nBA x.up,nBA x.wd] else if x.kd=3 then [nBA x.up,nBA x.wd,nBA x.ht] else [nBA x.up,nBA x.dn,tBA x.T])
def ndT (x:Ndr):List UInt8:=jn (ndB x)
def lkT (x:Lkr):List UInt8:=jn (lkB x)
theorem jn_cons2 (a b:ByteArray) (r:List ByteArray):jn (a::b::r)=a.data.toList++32::jn (b::r):=by
 unfold jn
 simp [Lib.join_cons,Lib.joinTail]
theorem wds_jn (R:List ByteArray) (h:R≠[]):wds (jn R)=R.flatMap fun b=>wds b.data.toList:=by
 induction R with
 |nil=>exact absurd rfl h
 |cons a r ih=>
  cases r with
  |nil=>rw [zI0];simp
  |cons b r=>
   rw [jn_cons2,wds_cut,ih (by simp)]
   simp
theorem mem_jn {c:UInt8} (R:List ByteArray) (h:c∈jn R):c=32∨∃b,b∈R∧c∈b.data.toList:=by
 induction R with
 |nil=>simp [jn,Lib.join] at h
 |cons a r ih=>
  cases r with
  |nil=>rw [zI0] at h;exact .inr ⟨a,by simp,h⟩
  |cons b r=>
   rw [jn_cons2] at h
   rcases List.mem_append.1 h with h |h
   ·exact .inr ⟨a,by simp,h⟩
   ·rcases List.mem_cons.1 h with h |h
    ·exact .inl h
    ·rcases ih h with h |⟨d,h1,h2⟩
     ·exact .inl h
     ·exact .inr ⟨d,List.mem_cons_of_mem _ h1,h2⟩
theorem zB2 (a:ByteArray) (r:List ByteArray):(jn (a::r)).length≤a.data.toList.length+(1+(jn r).length):=by
 cases r with
 |nil=>rw [zI0];omega
 |cons b r=>rw [jn_cons2,List.length_append,List.length_cons];omega
theorem jn_len_nil:(jn []).length=0:=rfl
theorem nb_wlen {l:List UInt8} (h:wlen l=l.length):∀c,c∈l→wchB (c.toNat:Int)=true:=by
 unfold wlen at h
 intro c hc
 have e:l.takeWhile (fun c=>wchB (c.toNat:Int))=l:=(List.takeWhile_prefix _).eq_of_length h
 have ha:=List.all_takeWhile (p:=fun c:UInt8=>wchB (c.toNat:Int)) (l:=l)
 rw [e] at ha
 exact List.all_eq_true.1 ha c hc
theorem zF5 {l:List UInt8} (h:zD3 l=true):(32:UInt8)∉l∧(10:UInt8)∉l∧0<l.length∧l.length≤20:=by
 unfold zD3 at h
 simp only [Bool.and_eq_true,decide_eq_true_eq] at h
 obtain ⟨⟨⟨h1,h2⟩,_⟩,h4⟩:=h
 refine ⟨fun hc=>?_,fun hc=>?_,h1,h2⟩
 ·have:=nb_wlen h4 _ hc
  revert this;decide
 ·have:=nb_wlen h4 _ hc
  revert this;decide
theorem nb_wd {b:ByteArray} (h:zD3 b.data.toList=true):wdOK b:=by
 obtain ⟨h1,h2,h3,_⟩:=zF5 h
 exact ⟨fun e=>by rw [e] at h3;simp at h3,h1,h2⟩
theorem it_no10 (v:Int):(10:UInt8)∉Lib.itoa v:=itoa_no (by decide) (.inl (by decide))
theorem tx_no10 (X Y:Nat→Int):∀n,(10:UInt8)∉txL X Y n
 |0=>by simp [txL]
 |n+1=>by
  have ih:=tx_no10 X Y n
  have hk:(10:UInt8)∉ktx (X n) (Y n):=by
   unfold ktx
   intro h
   rcases List.mem_append.1 h with h |h
   ·exact it_no10 _ h
   ·rcases List.mem_cons.1 h with h |h
    ·revert h;decide
    ·exact it_no10 _ h
  intro h
  unfold txL at h
  rcases List.mem_append.1 h with h |h
  ·split at h
   ·rcases List.mem_append.1 h with h |h
    ·exact ih h
    ·revert h;decide
   ·exact ih h
  ·exact hk h
def vNd (x:Ndr):Prop:=nodeP x.nm x.kd x.ax x.ay x.iv x.gd x.T.length (kX x.T) (kY x.T) x.pt x.rs
def vLk (x:Lkr):Prop:=linkP x.nm x.fr x.tn x.kd x.ln x.up x.dn x.sc x.wd x.ht x.T.length (kX x.T) (kY x.T)
theorem lv_near {v:Int} (h:lvP v):near v:=by unfold lvP at h;unfold near;omega
theorem po_near {v:Int} (h:poP v):near v:=by unfold poP at h;unfold near;omega
theorem tab_nil {T:List (Int×Int)} (h:T.length=0):T=[]:=List.length_eq_zero_iff.1 h
theorem vNd.num {x:Ndr} (h:vNd x):near x.ax∧near x.ay∧near x.iv∧near x.gd∧near x.rs:=by
 obtain ⟨_,h2,h3,⟨h4,h5⟩,h6⟩:=h
 refine ⟨po_near h2,po_near h3,lv_near h4,lv_near h5,?_⟩
 rcases h6 with ⟨_,_,_,_,h⟩|⟨_,_,hc,⟨_,h⟩|⟨_,_,h,h'⟩⟩
 ·rw [h];unfold near;omega
 ·rw [h];unfold near;omega
 ·have:=hc.2.2.2.2
  unfold near;omega
theorem vNd.form {x:Ndr} (h:vNd x):formN x:=by
 obtain ⟨n1,n2,n3,n4,n5⟩:=h.num
 refine ⟨nb_wd h.1,zG8 n1,zG8 n2,zG8 n3,zG8 n4,?_⟩
 rcases h.2.2.2.2 with ⟨h1,h2,h3,h4,h5⟩|⟨h1,h2,hc,h4⟩
 ·exact .inr (.inr ⟨h1,tab_nil h3,h4,h5⟩)
 ·rcases h1 with h1 |h1
  ·refine .inl ⟨h1,hc.1,?_⟩
   rcases h4 with h4 |⟨_,h5,_⟩
   ·exact h4
   ·omega
  ·refine .inr (.inl ⟨h1,hc.1,?_⟩)
   rcases h4 with h4 |⟨h5,_⟩
   ·exact .inl h4
   ·exact .inr ⟨h5,zG8 n5⟩
theorem sc_nil {b:ByteArray} (h:b.size=0):b=⟨#[]⟩:=by
 obtain ⟨⟨l⟩⟩:=b
 have:l.length=0:=h
 rw [List.length_eq_zero_iff.1 this]
theorem vLk.num {x:Lkr} (h:vLk x):near x.ln∧near x.up∧near x.dn∧near x.wd∧near x.ht:=by
 obtain ⟨_,_,_,_,h5,h6,h7⟩:=h
 refine ⟨?_,lv_near h5,lv_near h6,?_⟩
 ·rcases h7 with ⟨_,h,_⟩|⟨_,h,_⟩|⟨_,h,_⟩|⟨_,h,_⟩<;> unfold near<;> omega
 ·rcases h7 with ⟨_,_,_,h,h',_⟩|⟨_,_,_,_,h,h',_⟩|⟨_,_,_,_,h,h',_⟩|⟨_,_,_,_,h,h',_⟩<;> unfold near<;> omega
theorem vLk.form {x:Lkr} (h:vLk x):formL x:=by
 obtain ⟨n1,n2,n3,n4,n5⟩:=h.num
 refine ⟨nb_wd h.1,nb_wd h.2.1,nb_wd h.2.2.1,zG8 n2,?_⟩
 rcases h.2.2.2.2.2.2 with ⟨h1,h2,h3,h4,h5,h6⟩|⟨h1,h2,h3,h4,h5,h6,h7⟩|⟨h1,h2,h3,h4,h5,h6,h7⟩|⟨h1,h2,h3,h4,h5,h6,h7⟩
 ·exact .inl ⟨h1,zG8 n1,zG8 n3,nb_wd h3,h4,h5,tab_nil h6⟩
 ·exact .inr (.inl ⟨h1,h2,h3,sc_nil h4,zG8 n4,h6,tab_nil h7⟩)
 ·exact .inr (.inr (.inl ⟨h1,h2,h3,sc_nil h4,zG8 n4,zG8 n5,tab_nil h7⟩))
 ·exact .inr (.inr (.inr ⟨h1,h2,zG8 n3,sc_nil h4,h5,h6,h7.1⟩))
theorem wds_n (v:Int):wds (nBA v).data.toList=[Lib.itoa v]:=by
 show wds (Lib.itoa v)=_
 exact zD9 (itoa_no32 v)
theorem wds_w {b:ByteArray} (h:wdOK b):wds b.data.toList=[b.data.toList]:=zD9 h.2.1
theorem wds_t {T:List (Int×Int)} (h:tabT T):wds (tBA T).data.toList=twd T:=by
 show wds (txL (kX T) (kY T) T.length)=_
 have h1:=h.1
 obtain ⟨n,hn⟩:∃n,T.length=n+1:=⟨T.length - 1,by omega⟩
 unfold twd
 rw [hn]
 exact wds_tx _ _ n
theorem wds_ndK (x:Ndr):wds (⟨(ndK x).toArray⟩:ByteArray).data.toList=[ndK x]:=by
 show wds (ndK x)=_
 apply zD9
 unfold ndK
 repeat' split
 all_goals decide
theorem wds_ndK2 (x:Ndr):wds (ndK x)=[ndK x]:=wds_ndK x
theorem wds_lkK (x:Lkr):wds (⟨(lkK x).toArray⟩:ByteArray).data.toList=[lkK x]:=by
 show wds (lkK x)=_
 apply zD9
 unfold lkK
 repeat' split
 all_goals decide
theorem wds_lkK2 (x:Lkr):wds (lkK x)=[lkK x]:=wds_lkK x
theorem form_nd {x:Ndr} (h:formN x):IsNd (ndT x) x:=by
 refine ⟨h,?_⟩
 unfold ndT
 rw [wds_jn _ (by simp [ndB])]
 unfold ndB ndW
 simp only [List.flatMap_cons,wds_ndK,wds_ndK2,wds_w h.nm,wds_n,List.cons_append,List.nil_append]
 rcases h.kd with ⟨h1,h2,_⟩|⟨h1,h2,_⟩|⟨h1,h2,_⟩
 ·rw [h1]
  simp (config:={ decide:=true }) only [if_false,List.flatMap_cons,List.flatMap_nil,List.append_nil,wds_t h2]
 ·rw [h1]
  simp (config:={ decide:=true }) only [if_false,if_true,List.flatMap_cons,List.flatMap_nil,List.append_nil,wds_t h2]
  cases x.pt
  ·simp only [Bool.false_eq_true,if_false];rfl
  ·simp only [if_true,wds_n,List.cons_append,List.nil_append]
 ·rw [h1]
  simp
theorem form_lk {x:Lkr} (h:formL x):IsLk (lkT x) x:=by
 refine ⟨h,?_⟩
 unfold lkT
 rw [wds_jn _ (by simp [lkB])]
 unfold lkB lkW
 simp only [List.flatMap_cons,wds_lkK,wds_lkK2,wds_w h.nm,wds_w h.fr,wds_w h.tn,List.cons_append,List.nil_append]
 rcases h.kd with ⟨h1,h2,h3,h4,_⟩|⟨h1,_⟩|⟨h1,_⟩|⟨h1,_,_,_,_,_,h7⟩
 ·rw [h1]
  simp (config:={ decide:=true }) only [if_true,List.flatMap_cons,List.flatMap_nil,List.append_nil,wds_n,wds_w h4,List.cons_append,List.nil_append]
 ·rw [h1]
  simp (config:={ decide:=true }) only [if_false,if_true,List.flatMap_cons,List.flatMap_nil,List.append_nil,wds_n,List.cons_append,List.nil_append]
 ·rw [h1]
  simp (config:={ decide:=true }) only [if_false,if_true,List.flatMap_cons,List.flatMap_nil,List.append_nil,wds_n,List.cons_append,List.nil_append]
 ·rw [h1]
  simp (config:={ decide:=true }) only [if_false,List.flatMap_cons,List.flatMap_nil,List.append_nil,wds_n,wds_t h7,List.cons_append,List.nil_append]
theorem nd_no10 {x:Ndr} (h:formN x):(10:UInt8)∉ndT x:=by
 intro hc
 rcases mem_jn _ hc with h1 |⟨b,hb,hc⟩
 ·revert h1;decide
 have k1:(10:UInt8)∉ndK x:=by
  unfold ndK
  repeat' split
  all_goals decide
 have k2:=h.nm.2.2
 have k3:=it_no10
 have k4:=tx_no10 (kX x.T) (kY x.T) x.T.length
 unfold ndB at hb
 have hd:(10:UInt8)∉(if x.pt then nBA x.rs else (⟨#[45]⟩:ByteArray)).data.toList:=by
  split
  ·exact k3 _
  ·decide
 rcases List.mem_cons.1 hb with rfl |hb
 ·exact k1 hc
 rcases List.mem_cons.1 hb with rfl |hb
 ·exact k2 hc
 rcases List.mem_cons.1 hb with rfl |hb
 ·exact k3 _ hc
 rcases List.mem_cons.1 hb with rfl |hb
 ·exact k3 _ hc
 rcases List.mem_cons.1 hb with rfl |hb
 ·exact k3 _ hc
 rcases List.mem_cons.1 hb with rfl |hb
 ·exact k3 _ hc
 split at hb
 ·cases hb
 split at hb
 ·rcases List.mem_cons.1 hb with rfl |hb
  ·exact hd hc
  ·rw [List.mem_singleton.1 hb] at hc;exact k4 hc
 ·rw [List.mem_singleton.1 hb] at hc;exact k4 hc
theorem lk_no10 {x:Lkr} (h:formL x):(10:UInt8)∉lkT x:=by
 intro hc
 rcases mem_jn _ hc with h1 |⟨b,hb,hc⟩
 ·revert h1;decide
 have k1:(10:UInt8)∉lkK x:=by
  unfold lkK
  repeat' split
  all_goals decide
 have k3:=it_no10
 have k4:=tx_no10 (kX x.T) (kY x.T) x.T.length
 have k5:(10:UInt8)∉x.sc.data.toList:=by
  rcases h.kd with ⟨_,_,_,h4,_⟩|⟨_,_,_,h4,_⟩|⟨_,_,_,h4,_⟩|⟨_,_,_,h4,_⟩
  ·exact h4.2.2
  all_goals rw [h4];decide
 unfold lkB at hb
 rcases List.mem_cons.1 hb with rfl |hb
 ·exact k1 hc
 rcases List.mem_cons.1 hb with rfl |hb
 ·exact h.nm.2.2 hc
 rcases List.mem_cons.1 hb with rfl |hb
 ·exact h.fr.2.2 hc
 rcases List.mem_cons.1 hb with rfl |hb
 ·exact h.tn.2.2 hc
 split at hb
 ·simp only [List.mem_cons,List.not_mem_nil,or_false] at hb
  rcases hb with rfl |rfl |rfl |rfl
  ·exact k3 _ hc
  ·exact k3 _ hc
  ·exact k3 _ hc
  ·exact k5 hc
 split at hb
 ·simp only [List.mem_cons,List.not_mem_nil,or_false] at hb
  rcases hb with rfl |rfl
  ·exact k3 _ hc
  ·exact k3 _ hc
 split at hb
 ·simp only [List.mem_cons,List.not_mem_nil,or_false] at hb
  rcases hb with rfl |rfl |rfl
  ·exact k3 _ hc
  ·exact k3 _ hc
  ·exact k3 _ hc
 ·simp only [List.mem_cons,List.not_mem_nil,or_false] at hb
  rcases hb with rfl |rfl |rfl
  ·exact k3 _ hc
  ·exact k3 _ hc
  ·exact k4 hc
def netLn (N:List Ndr) (L:List Lkr):List (List UInt8):=N.map (fun x=>ndT x++[10])++L.map (fun x=>lkT x++[10])
def netT (N:List Ndr) (L:List Lkr):List UInt8:=(netLn N L).flatten
def lineOK (l:List UInt8):Prop:=∃a,l=a++[10]∧(10:UInt8)∉a
theorem rln_flat (ls:List (List UInt8)) (h:∀l,l∈ls→lineOK l):rln ls.flatten=ls:=by
 induction ls with
 |nil=>rfl
 |cons l ls ih=>
  obtain ⟨a,rfl,ha⟩:=h l (by simp)
  rw [List.flatten_cons,List.append_assoc]
  show rln (a++10::ls.flatten)=_
  rw [rln_cut _ ha,ih fun l hl=>h l (by simp [hl])]
theorem rln_back:∀l:List UInt8,(rln l).flatten=l
 |[]=>rfl
 |c::r=>by
  have ih:=rln_back r
  unfold rln
  split
  ·rename_i h;subst h;rw [List.flatten_cons,ih];rfl
  ·cases e:rln r with
   |nil=>rw [e] at ih;simp at ih;subst ih;rfl
   |cons h t=>rw [e] at ih;simp at ih⊢;exact ih
theorem netLn_ok {N:List Ndr} {L:List Lkr} (hN:∀x,x∈N→formN x) (hL:∀x,x∈L→formL x):∀l,l∈netLn N L→lineOK l:=by
 intro l hl
 rcases List.mem_append.1 hl with hl |hl
 ·obtain ⟨x,hx,rfl⟩:=List.mem_map.1 hl
  exact ⟨_,rfl,nd_no10 (hN x hx)⟩
 ·obtain ⟨x,hx,rfl⟩:=List.mem_map.1 hl
  exact ⟨_,rfl,lk_no10 (hL x hx)⟩
theorem runs_nd (M:List Ndr):∀N:List Ndr,(∀x,x∈M→formN x)→Runs N [] (M.map fun x=>ndT x++[10]) (N++M) []:=by
 induction M with
 |nil=>intro N _;rw [List.append_nil];exact .nil _ _
 |cons x M ih=>
  intro N h
  have:=ih (N++[x]) fun y hy=>h y (by simp [hy])
  rw [List.append_assoc] at this
  exact .cons (.inl ⟨_,x,rfl,form_nd (h x (by simp)),rfl,rfl,rfl⟩) this
theorem runs_lk (N:List Ndr) (M:List Lkr):∀L:List Lkr,(∀x,x∈M→formL x)→Runs N L (M.map fun x=>lkT x++[10]) N (L++M):=by
 induction M with
 |nil=>intro L _;rw [List.append_nil];exact .nil _ _
 |cons x M ih=>
  intro L h
  have:=ih (L++[x]) fun y hy=>h y (by simp [hy])
  rw [List.append_assoc] at this
  exact .cons (.inr ⟨_,x,rfl,form_lk (h x (by simp)),rfl,rfl⟩) this
theorem Runs.trans {N:List Ndr} {L:List Lkr} {a b:List (List UInt8)} {N1 L1 N2 L2} (h:Runs N L a N1 L1) (h':Runs N1 L1 b N2 L2):Runs N L (a++b) N2 L2:=by
 induction h with
 |nil=>exact h'
 |cons h1 _ ih=>exact .cons h1 (ih h')
theorem Runs.head {a b:List (List UInt8)}:∀{N:List Ndr} {L:List Lkr} {N2 L2},Runs N L (a++b) N2 L2→∃N1 L1,Runs N L a N1 L1:=by
 induction a with
 |nil=>intro N L N2 L2 _;exact ⟨N,L,.nil _ _⟩
 |cons x a ih=>
  intro N L N2 L2 h
  cases h with
  |cons h1 h2=>
   obtain ⟨N1,L1,h3⟩:=ih h2
   exact ⟨N1,L1,.cons h1 h3⟩
theorem runs_net {N:List Ndr} {L:List Lkr} (hN:∀x,x∈N→formN x) (hL:∀x,x∈L→formL x):Runs [] [] (netLn N L) N L:=by
 have h1:=runs_nd N [] hN
 rw [List.nil_append] at h1
 have h2:=runs_lk N L [] hL
 rw [List.nil_append] at h2
 exact h1.trans h2
theorem Runs.count {N:List Ndr} {L:List Lkr} {ls:List (List UInt8)} {N1 L1} (h:Runs N L ls N1 L1):N1.length+L1.length=N.length+L.length+ls.length:=by
 induction h with
 |nil=>simp
 |cons h1 _ ih=>
  rw [ih,List.length_cons]
  rcases h1 with ⟨l,z,_,_,e,e2,e3⟩|⟨l,y,_,_,e,e2⟩
  ·rw [e,e2,e3];simp;omega
  ·rw [e,e2];simp;omega
theorem nd_min {l:List UInt8} {x:Ndr} (h:IsNd l x):4≤l.length:=by
 have h1:=wds_len l
 rw [h.2] at h1
 simp [ndW] at h1
 omega
theorem lk_min {l:List UInt8} {x:Lkr} (h:IsLk l x):4≤l.length:=by
 have h1:=wds_len l
 rw [h.2] at h1
 simp [lkW] at h1
 have:2≤(if x.kd=1 then [Lib.itoa x.ln,Lib.itoa x.up,Lib.itoa x.dn,x.sc.data.toList] else if x.kd=2 then [Lib.itoa x.up,Lib.itoa x.wd] else if x.kd=3 then [Lib.itoa x.up,Lib.itoa x.wd,Lib.itoa x.ht] else Lib.itoa x.up::Lib.itoa x.dn::twd x.T).length:=by
  repeat' split
  all_goals simp
 omega
theorem Runs.bytes {N:List Ndr} {L:List Lkr} {ls:List (List UInt8)} {N1 L1} (h:Runs N L ls N1 L1):5*ls.length≤ls.flatten.length:=by
 induction h with
 |nil=>simp
 |cons h1 _ ih=>
  rw [List.length_cons,List.flatten_cons,List.length_append]
  rcases h1 with ⟨l,z,rfl,hz,_⟩|⟨l,y,rfl,hy,_⟩
  ·have:=nd_min hz
   rw [List.length_append,List.length_cons,List.length_nil];omega
  ·have:=lk_min hy
   rw [List.length_append,List.length_cons,List.length_nil];omega
theorem runs_few {s:List UInt8} (h:s.length≤10000) {N:List Ndr} {L:List Lkr} (hr:Runs [] [] (rln s) N L):N.length≤2000∧L.length≤2000:=by
 have h1:=hr.count
 have h2:=hr.bytes
 rw [rln_back] at h2
 simp at h1
 omega
theorem netV_nd {N:List Ndr} {L:List Lkr} (h:netV N L):∀x,x∈N→vNd x:=by
 intro x hx
 obtain ⟨k,hk,rfl⟩:=List.mem_iff_getElem.1 hx
 have:=(h.2.2.1 k hk).1
 unfold ndP ndsR at this
 simp only [List.getD,List.getElem?_eq_getElem hk,Option.getD_some] at this
 exact this
theorem netV_lk {N:List Ndr} {L:List Lkr} (h:netV N L):∀x,x∈L→vLk x:=by
 intro x hx
 obtain ⟨k,hk,rfl⟩:=List.mem_iff_getElem.1 hx
 have:=(h.2.2.2 k hk).1
 unfold lkP lksR at this
 simp only [List.getD,List.getElem?_eq_getElem hk,Option.getD_some] at this
 exact this
theorem netV_forms {N:List Ndr} {L:List Lkr} (h:netV N L):(∀x,x∈N→formN x)∧∀x,x∈L→formL x:=⟨fun x hx=>(netV_nd h x hx).form,fun x hx=>(netV_lk h x hx).form⟩
theorem ntis_net {N:List Ndr} {L:List Lkr} (h:netV N L) (hs:(netT N L).length≤262144):NtIs netV (netT N L) N L 0 0:=by
 obtain ⟨h1,h2⟩:=netV_forms h
 refine .ok N L hs ?_ h
 unfold netT
 rw [rln_flat _ (netLn_ok h1 h2)]
 exact runs_net h1 h2
theorem it_len7 {v:Int} (h1:0≤v) (h2:v≤8388608):(Lib.itoa v).length≤7:=by
 rw [zE7 (by omega),Lib.decDigits_length]
 exact zD1 7 _ (by decide) (by omega)
theorem it_len16 {v:Int} (h1:0≤v) (h2:v≤1125899906842624):(Lib.itoa v).length≤16:=by
 rw [zE7 (by omega),Lib.decDigits_length]
 exact zD1 16 _ (by decide) (by omega)
theorem it_len13 {v:Int} (h1:0≤v) (h2:v≤1099511627776):(Lib.itoa v).length≤13:=by
 rw [zE7 (by omega),Lib.decDigits_length]
 exact zD1 13 _ (by decide) (by omega)
theorem txs_len {X Y:Nat→Int} {M:Nat}:∀n,(∀k,k<n→(ktx (X k) (Y k)).length≤M)→(txL X Y n).length≤n*(M+1)
 |0,_=>by simp [txL]
 |n+1,h=>by
  have ih:=txs_len n fun k hk=>h k (by omega)
  have h1:=h n (by omega)
  unfold txL
  rw [Nat.add_mul]
  split<;> simp only [List.length_append,List.length_cons,List.length_nil]<;> omega
theorem tabl_mono {n:Nat} {X Y:Nat→Int} (h:TabOK n X Y):∀k,k<n→(X 0≤X k∧Y 0≤Y k)∧(X k≤X (n - 1)∧Y k≤Y (n - 1)):=by
 have up:∀k,k<n→X 0≤X k∧Y 0≤Y k:=by
  intro k
  induction k with
  |zero=>intro _;exact ⟨Int.le_refl _,Int.le_refl _⟩
  |succ k ih=>
   intro hk
   have h1:=ih (by omega)
   have h2:=(h.2.2 (k+1) hk).2.2 (by omega)
   rw [Nat.add_sub_cancel] at h2
   omega
 have down:∀d k,k+d=n - 1→X k≤X (n - 1)∧Y k≤Y (n - 1):=by
  intro d
  induction d with
  |zero=>intro k e;rw [show k=n - 1 by omega];exact ⟨Int.le_refl _,Int.le_refl _⟩
  |succ d ih=>
   intro k e
   have h1:=ih (k+1) (by omega)
   have h2:=(h.2.2 (k+1) (by omega)).2.2 (by omega)
   rw [Nat.add_sub_cancel] at h2
   omega
 intro k hk
 exact ⟨up k hk,down (n - 1 - k) k (by omega)⟩
theorem ktx_len {x y:Int} {a b:Nat} (h1:(Lib.itoa x).length≤a) (h2:(Lib.itoa y).length≤b):(ktx x y).length≤a+1+b:=by
 unfold ktx
 simp only [List.length_append,List.length_cons]
 omega
theorem vNd.tab {x:Ndr} (h:vNd x) (hk:x.kd≠3):TabOK x.T.length (kX x.T) (kY x.T)∧(txL (kX x.T) (kY x.T) x.T.length).length≤2500:=by
 obtain ⟨_,_,_,⟨h4,h5⟩,h6⟩:=h
 rcases h6 with h6 |⟨_,h7,hc,_⟩
 ·exact absurd h6.1 hk
 refine ⟨hc.1,?_⟩
 have hm:=tabl_mono hc.1
 have h8:=txs_len (X:=kX x.T) (Y:=kY x.T) (M:=24) x.T.length fun k hk=>by
  have:=hm k hk
  have e1:=hc.2.1
  have e2:=hc.2.2.1
  have e3:=hc.2.2.2.1
  have e4:=hc.2.2.2.2
  unfold lvP at h4 h5
  exact ktx_len (a:=7) (b:=16) (it_len7 (by omega) (by omega)) (it_len16 (by omega) (by omega))
 have:=hc.1.2.1
 omega
theorem vLk.tab {x:Lkr} (h:vLk x) (hk:x.kd≠1∧x.kd≠2∧x.kd≠3):TabOK x.T.length (kX x.T) (kY x.T)∧(txL (kX x.T) (kY x.T) x.T.length).length≤2200:=by
 obtain ⟨_,_,_,_,_,_,h7⟩:=h
 rcases h7 with h7 |h7 |h7 |⟨_,_,_,_,_,_,hc⟩
 ·exact absurd h7.1 hk.1
 ·exact absurd h7.1 hk.2.1
 ·exact absurd h7.1 hk.2.2
 refine ⟨hc.1,?_⟩
 have h8:=txs_len (X:=kX x.T) (Y:=kY x.T) (M:=21) x.T.length fun k hk=>by
  have:=hc.2 k hk
  exact ktx_len (a:=7) (b:=13) (it_len7 (by omega) (by omega)) (it_len13 (by omega) (by omega))
 have:=hc.1.2.1
 omega
theorem zD6 {v:Int} (h:near v):(nBA v).data.toList.length≤19:=itoa_len h
theorem vNd.len {x:Ndr} (h:vNd x):(ndT x).length≤2640:=by
 obtain ⟨n1,n2,n3,n4,n5⟩:=h.num
 have l1:=zD6 n1
 have l2:=zD6 n2
 have l3:=zD6 n3
 have l4:=zD6 n4
 have l5:=zD6 n5
 have l6:=(zF5 h.1).2.2.2
 have l7:(⟨(ndK x).toArray⟩:ByteArray).data.toList.length≤7:=by
  show (ndK x).length≤7
  unfold ndK
  repeat' split
  all_goals decide
 have l8:x.kd≠3→(tBA x.T).data.toList.length≤2500:=fun hk=>(h.tab hk).2
 have l9:(if x.pt then nBA x.rs else (⟨#[45]⟩:ByteArray)).data.toList.length≤19:=by
  split
  ·exact l5
  ·decide
 unfold ndT ndB
 refine nT (zB2 _ _) ?_
 have c1:=zB2 x.nm (nBA x.ax::nBA x.ay::nBA x.iv::nBA x.gd::(if x.kd=3 then [] else if x.kd=2 then [if x.pt then nBA x.rs else ⟨#[45]⟩,tBA x.T] else [tBA x.T]))
 have c2:=zB2 (nBA x.ax) (nBA x.ay::nBA x.iv::nBA x.gd::(if x.kd=3 then [] else if x.kd=2 then [if x.pt then nBA x.rs else ⟨#[45]⟩,tBA x.T] else [tBA x.T]))
 have c3:=zB2 (nBA x.ay) (nBA x.iv::nBA x.gd::(if x.kd=3 then [] else if x.kd=2 then [if x.pt then nBA x.rs else ⟨#[45]⟩,tBA x.T] else [tBA x.T]))
 have c4:=zB2 (nBA x.iv) (nBA x.gd::(if x.kd=3 then [] else if x.kd=2 then [if x.pt then nBA x.rs else ⟨#[45]⟩,tBA x.T] else [tBA x.T]))
 have c5:=zB2 (nBA x.gd) ((if x.kd=3 then [] else if x.kd=2 then [if x.pt then nBA x.rs else ⟨#[45]⟩,tBA x.T] else [tBA x.T]))
 have c6:(jn (if x.kd=3 then [] else if x.kd=2 then [if x.pt then nBA x.rs else ⟨#[45]⟩,tBA x.T] else [tBA x.T])).length≤2520:=by
  split
  ·rw [jn_len_nil];omega
  ·rename_i hk
   have:=l8 hk
   split
   ·have c7:=zB2 (if x.pt then nBA x.rs else ⟨#[45]⟩) [tBA x.T]
    rw [zI0] at c7
    omega
   ·rw [zI0];omega
 omega
theorem vLk.len {x:Lkr} (h:vLk x):(lkT x).length≤2330:=by
 obtain ⟨n1,n2,n3,n4,n5⟩:=h.num
 have l1:=zD6 n1
 have l2:=zD6 n2
 have l3:=zD6 n3
 have l4:=zD6 n4
 have l5:=zD6 n5
 have l6:=(zF5 h.1).2.2.2
 have l6':=(zF5 h.2.1).2.2.2
 have l6'':=(zF5 h.2.2.1).2.2.2
 have l7:(⟨(lkK x).toArray⟩:ByteArray).data.toList.length≤4:=by
  show (lkK x).length≤4
  unfold lkK
  repeat' split
  all_goals decide
 have l8:(x.kd≠1∧x.kd≠2∧x.kd≠3)→(tBA x.T).data.toList.length≤2200:=fun hk=>(h.tab hk).2
 have l9:x.sc.data.toList.length≤20:=by
  rcases h.2.2.2.2.2.2 with ⟨_,_,h3,_⟩|⟨_,_,_,h3,_⟩|⟨_,_,_,h3,_⟩|⟨_,_,_,h3,_⟩
  ·exact (zF5 h3).2.2.2
  all_goals (rw [sc_nil h3];decide)
 unfold lkT lkB
 refine nT (zB2 _ _) ?_
 have c1:=zB2 x.nm (x.fr::x.tn::(if x.kd=1 then [nBA x.ln,nBA x.up,nBA x.dn,x.sc] else if x.kd=2 then [nBA x.up,nBA x.wd] else if x.kd=3 then [nBA x.up,nBA x.wd,nBA x.ht] else [nBA x.up,nBA x.dn,tBA x.T]))
 have c2:=zB2 x.fr (x.tn::(if x.kd=1 then [nBA x.ln,nBA x.up,nBA x.dn,x.sc] else if x.kd=2 then [nBA x.up,nBA x.wd] else if x.kd=3 then [nBA x.up,nBA x.wd,nBA x.ht] else [nBA x.up,nBA x.dn,tBA x.T]))
 have c3:=zB2 x.tn ((if x.kd=1 then [nBA x.ln,nBA x.up,nBA x.dn,x.sc] else if x.kd=2 then [nBA x.up,nBA x.wd] else if x.kd=3 then [nBA x.up,nBA x.wd,nBA x.ht] else [nBA x.up,nBA x.dn,tBA x.T]))
 have c6:(jn (if x.kd=1 then [nBA x.ln,nBA x.up,nBA x.dn,x.sc] else if x.kd=2 then [nBA x.up,nBA x.wd] else if x.kd=3 then [nBA x.up,nBA x.wd,nBA x.ht] else [nBA x.up,nBA x.dn,tBA x.T])).length≤2241:=by
  split
  ·have d1:=zB2 (nBA x.ln) [nBA x.up,nBA x.dn,x.sc]
   have d2:=zB2 (nBA x.up) [nBA x.dn,x.sc]
   have d3:=zB2 (nBA x.dn) [x.sc]
   rw [zI0] at d3
   omega
  split
  ·have d1:=zB2 (nBA x.up) [nBA x.wd]
   rw [zI0] at d1
   omega
  split
  ·have d1:=zB2 (nBA x.up) [nBA x.wd,nBA x.ht]
   have d2:=zB2 (nBA x.wd) [nBA x.ht]
   rw [zI0] at d2
   omega
  ·rename_i k1 k2 k3
   have:=l8 ⟨k1,k2,k3⟩
   have d1:=zB2 (nBA x.up) [nBA x.dn,tBA x.T]
   have d2:=zB2 (nBA x.dn) [tBA x.T]
   rw [zI0] at d2
   omega
 omega
theorem flat_le {α:Type} (f:α→List UInt8) (M:Nat):∀L:List α,(∀x,x∈L→(f x).length≤M)→(L.map f).flatten.length≤L.length*M
 |[],_=>by simp
 |a::L,h=>by
  have ih:=flat_le f M L fun x hx=>h x (by simp [hx])
  have h1:=h a (by simp)
  rw [List.map_cons,List.flatten_cons,List.length_append,List.length_cons,Nat.succ_mul]
  omega
theorem netT_le {N:List Ndr} {L:List Lkr} (hN:∀x,x∈N→vNd x) (hL:∀x,x∈L→vLk x):(netT N L).length≤N.length*2641+L.length*2331:=by
 unfold netT netLn
 rw [List.flatten_append,List.length_append]
 have h1:=flat_le (fun x:Ndr=>ndT x++[10]) 2641 N fun x hx=>by
  have:=(hN x hx).len
  simp only [List.length_append,List.length_cons,List.length_nil];omega
 have h2:=flat_le (fun x:Lkr=>lkT x++[10]) 2331 L fun x hx=>by
  have:=(hL x hx).len
  simp only [List.length_append,List.length_cons,List.length_nil];omega
 omega
theorem netT_small {N:List Ndr} {L:List Lkr} (h:netV N L) (h1:N.length≤40) (h2:L.length≤60):(netT N L).length≤262144:=by
 have:=netT_le (netV_nd h) (netV_lk h)
 omega
open Go.RowKit
theorem aw_ss (v:Value) (w:World):(Instr.typeAssert (.iface 9 v) 20 9 true).run Tryz.prog w= .ok (.tuple #[v,.bool true]) w:=by kernel_rfl
theorem aw_ns (v:Value) (w:World):(Instr.typeAssert (.iface 3 v) 20 9 true).run Tryz.prog w= .ok (.tuple #[.string ByteArray.empty,.bool false]) w:=by kernel_rfl
theorem aw_nn (v:Value) (w:World):(Instr.typeAssert (.iface 3 v) 20 3 true).run Tryz.prog w= .ok (.tuple #[v,.bool true]) w:=by kernel_rfl
theorem aw_ts (v:Value) (w:World):(Instr.typeAssert (.iface 53 v) 20 9 true).run Tryz.prog w= .ok (.tuple #[.string ByteArray.empty,.bool false]) w:=by kernel_rfl
theorem aw_tn (v:Value) (w:World):(Instr.typeAssert (.iface 53 v) 20 3 true).run Tryz.prog w= .ok (.tuple #[.int .i64 0,.bool false]) w:=by kernel_rfl
theorem aw_tt (v:Value) (w:World):(Instr.typeAssert (.iface 53 v) 20 53 true).run Tryz.prog w= .ok (.tuple #[v,.bool true]) w:=by kernel_rfl
inductive Itw
 |s (b:ByteArray)
 |n (z:Int)
 |t (g off c:Nat) (T:List (Int×Int))
def Itw.val:Itw→Value
 | .s b=>.iface 9 (.string b)
 | .n z=>.iface 3 (.int .i64 z)
 | .t g off c T=>.iface 53 (.slice (some ⟨g,off,none⟩) T.length c)
def Itw.txt:Itw→ByteArray
 | .s b=>b
 | .n z=>nBA z
 | .t _ _ _ T=>tBA T
def Itw.ok (w:World):Itw→Prop
 | .s b=>b.size≤600
 | .n z=>near z
 | .t g off _ T=>TabOK T.length (kX T) (kY T)∧TabAt w g off T.length (kX T) (kY T)∧(tBA T).size≤2500
theorem Itw.size {w:World} {x:Itw} (h:x.ok w):x.txt.size≤2500:=by
 cases x with
 |s b=>exact nT (show b.size≤600 from h) (by omega)
 |n z=>exact nT (zD6 (show near z from h)) (by omega)
 |t g off c T=>exact h.2.2
def IwAt (w:World) (b off n:Nat) (I:Nat→Itw):Prop:=b<w.heap.size∧∀k,k<n→w.cell? ⟨b,off+k,none⟩=some (I k).val
theorem IwAt.below {w w':World} {B b off n:Nat} {I:Nat→Itw} (h:IwAt w b off n I) (hb:Below B w w') (hB:b<B):IwAt w' b off n I:=
 ⟨Nat.lt_of_lt_of_le h.1 hb.size,fun k hk=>(hb.cell (p:=⟨b,off+k,none⟩) hB).trans (h.2 k hk)⟩
def iwl (I:Nat→Itw) (n:Nat):List ByteArray:=(List.range n).map fun k=>(I k).txt
theorem iwl_succ (I:Nat→Itw) (n:Nat):iwl I (n+1)=iwl I n++[(I n).txt]:=by unfold iwl;rw [List.range_succ,List.map_append];rfl
theorem iwl_len (I:Nat→Itw) (n:Nat):(iwl I n).length=n:=by simp [iwl]
theorem iwl_at (I:Nat→Itw) {n k:Nat} (h:k<n):(iwl I n).getD k ByteArray.empty=(I k).txt:=by simp [iwl,List.getD,h]
theorem wl_iwl (I:Nat→Itw) (n:Nat):wl (fun k=>(iwl I n).getD k ByteArray.empty) n=iwl I n:=by
 unfold wl
 conv=>rhs;unfold iwl
 apply List.map_congr_left
 intro k hk
 exact iwl_at I (List.mem_range.1 hk)
theorem tjoinW (A:Option Addr) (n c:Nat) (X:Nat→ByteArray) (hnc:n≤c) (h40:n≤12) (h6:∀i,i<n→(X i).size≤2500) (w:World) (ht:StrIn w A n X):
 Calls Tryz.prog 50 #[.slice A n c,.string ⟨#[32]⟩] w fun e w'=>e= .returned (.string ⟨(jn (wl X n)).toArray⟩)∧Below w.heap.size w w':=by
 rcases ht.2 with h0 |⟨b,o,rfl,h⟩
 ·subst h0
  refine (Tryz.strings_Join_none A c ⟨#[32]⟩ w).mono ?_
  rintro e w' ⟨he,rfl⟩
  exact ⟨he,bR _ _⟩
 ·have hlen:=jn_len X 2500 n h6
  have hl:(wl X n).length=n:=by simp [wl]
  have hm:=Nat.mul_le_mul_right 2501 h40
  have:=Tryz.strings_Join b o c (wl X n) ⟨#[32]⟩ w (fun j x hj=>by
   have hjn:j<n:=by
        have:=(List.getElem?_eq_some_iff.1 hj).1
        omega
   have hx:x=X j:=by
        unfold wl at hj
        simp [hjn] at hj
        exact hj.symm
   rw [hx];exact h.2 j hjn) h.1 (by omega) (by omega) (by
   show (jn (wl X n)).length≤_
   omega)
  rw [hl] at this
  exact this
theorem line_end (R:List ByteArray):(⟨(jn R).toArray⟩:ByteArray)++(⟨#[10]⟩:ByteArray)=⟨(jn R++[10]).toArray⟩:=by
 apply ByteArray.ext
 apply Array.ext'
 rw [ByteArray.data_append]
 simp
set_option maxRecDepth 100000 in
set_option maxHeartbeats 4000000 in
theorem twords (b off n c:Nat) (I:Nat→Itw) (h12:n≤12) (w:World) (hok:∀k,k<n→(I k).ok w) (hE:Env w) (ht:IwAt w b off n I):
 Calls Tryz.prog 125 #[.slice (some ⟨b,off,none⟩) n c] w fun e w'=>e= .returned (.string ⟨(jn (iwl I n)++[10]).toArray⟩)∧Below w.heap.size w w':=by
 have HT:=LH ht
 have H12:=LH h12
 have HOK:=LH hok
 have HE:=LH hE
 have hbw:=ht.1
 obtain ⟨SI0,si0,sz0,sz1,sz2⟩:=zA8 infoS
 have SI1:=LH si0
 have SI2:=LH sz0
 have SI3:=LH sz1
 have SI4:=LH sz2
 clear si0 sz0 sz1 sz2 ht h12 hok hE
 have as1:=aw_ss
 have as2:=aw_ns
 have as3:=aw_nn
 have as4:=aw_ts
 have as5:=aw_tn
 have as6:=aw_tt
 go_enter Tryz.func125,Tryz.ntmps125
 go_wp2_with fail
 go_loopw [3,13] (fun u v wr=>∃(i:Nat),Hid (i≤n)∧v= .int .i64 i∧Hid (RMem w wr u i (iwl I i))) (fun _ v _=>n - (RowKit.intOf v).toNat)
 case atStart=>exact ⟨0,Nat.zero_le _,rfl,World.ownsRow_nil _ _ _ _,bR _ _⟩
 case round=>
  obtain ⟨i,Hi,rfl,HQ⟩:=hrel
  obtain ⟨A8,cap8,h8⟩:=HQ.out.form
  subst h8
  have HN300:Hid (i≤300):=by show i≤300;have:=Hi.out;have:=H12.out;omega
  by_cases hlt:i<n
  ·have T0:decide ((i:Int)<(n:Int))=true:=by simp<;> omega
   have T0':decide (i<n)=true:=dT hlt
   obtain ⟨i',hi'⟩:∃z,z=i+1:=⟨_,rfl⟩
   have x0:IntKind.i64.wrap ((i:Int)+1)=(i':Int):=by have:=H12.out;rw [IntKind.wrap_i64];omega
   have HI':Hid (i'≤n):=by show i'≤n;omega
   have HMS:Hid (n - (RowKit.intOf (Value.int .i64 (i':Int))).toNat<n - (RowKit.intOf (Value.int .i64 (i:Int))).toNat):=by show _<_;simp [RowKit.intOf];omega
   have k0:(0:Int)≤(i:Int):=by omega
   have k1:(i:Int)<(n:Int):=by omega
   have hX:=(HT.out.below HQ.out.2 HT.out.1).2 i hlt
   have hbr:=(HT.out.below HQ.out.2 HT.out.1).1
   have ho:=HOK.out i hlt
   have HNX:Hid (iwl I i'=iwl I i++[(I i).txt]):=by show _=_;rw [hi',iwl_succ]
   have HI2:Hid (i+1=i'):=hi'.symm
   generalize I i=x at hX ho HNX
   clear hi' hlt
   cases x with
   |s y=>
    have hX':wr.cell? ⟨b,off+i,none⟩=some (.iface 9 (.string y)):=hX
    clear hX ho
    go_wp2_with (first
      |(at_builtin;refine wpList_append_own_at _ ?saa (.tmp 21) (.tmp 23) 41 ?sab (w.heap.size) 9 SI0 (.string ByteArray.empty) 1 16 Tryz.underlying41 SI1.out SI2.out SI3.out SI4.out ?sac ?sad (.slice A8 i cap8) (i) (sc (iwl I i)) ?sae (HQ.out.1.alloc _) (⟨wr.heap.size,0,none⟩) (1) (1) ([.string (y)]) ?sag (rfl) (World.news_of_block (cs:=#[.string (y)]) (t:=9) (fr:=(0,0)) (heap_alloc_new _ _)) ((by simp [Value.oneCell'])) (h63_s HN300.out) (hby_s HN300.out) (nT HQ.out.2.size (by simp)) ?sah
        case saa=>exact rfl
        case sab=>exact rfl
        case sac=>exact rfl
        case sad=>decide
        case sae=>exact rfl
        case sag=>exact rfl
        intro v2 w7 hown2 hgrow2 hnil2 hat2
        have HM7:=LH (HQ.out.app hown2 hgrow2)
        clear hown2 hgrow2 hnil2 hat2))
    go_roundw
    case rel=>exact ⟨i',HI',rfl,by have h:=HM7.out;rw [HI2.out] at h;show RMem w _ _ i' (iwl I i');rw [HNX.out];exact h⟩
    case measure=>exact HMS.out
   |n z=>
    have hX':wr.cell? ⟨b,off+i,none⟩=some (.iface 3 (.int .i64 z)):=hX
    have ho':near z:=ho
    have S:=LH fun w hE=>titoa z (by unfold near at ho';omega) (by unfold near at ho';omega) w hE
    clear ho'
    have HEr:=LH (HE.out.below HQ.out.2)
    clear hX ho
    go_wp2_with (first
      |(go_at_call 155
        with_reducible refine (S.out _ HEr.out).mono ?_
        rintro e w5 ⟨rfl,hb5⟩
        have HQ5:=LH (HQ.out.call hb5)
        clear hb5)
      |(at_builtin;refine wpList_append_own_at _ ?naa (.tmp 28) (.tmp 31) 41 ?nab (w.heap.size) 9 SI0 (.string ByteArray.empty) 1 16 Tryz.underlying41 SI1.out SI2.out SI3.out SI4.out ?nac ?nad (.slice A8 i cap8) (i) (sc (iwl I i)) ?nae (HQ5.out.1.alloc _) (⟨w5.heap.size,0,none⟩) (1) (1) ([.string (nBA z)]) ?nag (rfl) (World.news_of_block (cs:=#[.string (nBA z)]) (t:=9) (fr:=(0,0)) (heap_alloc_new _ _)) ((by simp [Value.oneCell'])) (h63_s HN300.out) (hby_s HN300.out) (nT HQ5.out.2.size (by simp)) ?nah
        case naa=>exact rfl
        case nab=>exact rfl
        case nac=>exact rfl
        case nad=>decide
        case nae=>exact rfl
        case nag=>exact rfl
        intro v2 w7 hown2 hgrow2 hnil2 hat2
        have HM7:=LH (HQ5.out.app hown2 hgrow2)
        clear hown2 hgrow2 hnil2 hat2))
    go_roundw
    case rel=>exact ⟨i',HI',rfl,by have h:=HM7.out;rw [HI2.out] at h;show RMem w _ _ i' (iwl I i');rw [HNX.out];exact h⟩
    case measure=>exact HMS.out
   |t g o2 c2 T=>
    have hX':wr.cell? ⟨b,off+i,none⟩=some (.iface 53 (.slice (some ⟨g,o2,none⟩) T.length c2)):=hX
    obtain ⟨ho1,ho2,ho3⟩:TabOK T.length (kX T) (kY T)∧TabAt w g o2 T.length (kX T) (kY T)∧(tBA T).size≤2500:=ho
    have HEr:=LH (HE.out.below HQ.out.2)
    have S:Hid (Calls Tryz.prog 160 #[.slice (some ⟨g,o2,none⟩) T.length c2] wr fun e w'=>e= .returned (.tuple #[.string (tBA T),.int .i64 0])∧Below wr.heap.size wr w'):=ttext g o2 T.length c2 (kX T) (kY T) wr ho1 (ho2.below HQ.out.2 ho2.1) HEr.out
    have HNX':Hid (iwl I i'=iwl I i++[tBA T]):=HNX
    clear hX ho1 ho2 ho3 HNX
    generalize tBA T=tb at S HNX'
    go_wp2_with (first
      |(go_at_call 160
        with_reducible refine S.out.mono ?_
        rintro e w5 ⟨rfl,hb5⟩
        have HQ5:=LH (HQ.out.call hb5)
        clear hb5)
      |(at_builtin;refine wpList_append_own_at _ ?taa (.tmp 41) (.tmp 43) 41 ?tab (w.heap.size) 9 SI0 (.string ByteArray.empty) 1 16 Tryz.underlying41 SI1.out SI2.out SI3.out SI4.out ?tac ?tad (.slice A8 i cap8) (i) (sc (iwl I i)) ?tae (HQ5.out.1.alloc _) (⟨w5.heap.size,0,none⟩) (1) (1) ([.string (tb)]) ?tag (rfl) (World.news_of_block (cs:=#[.string (tb)]) (t:=9) (fr:=(0,0)) (heap_alloc_new _ _)) ((by simp [Value.oneCell'])) (h63_s HN300.out) (hby_s HN300.out) (nT HQ5.out.2.size (by simp)) ?tah
        case taa=>exact rfl
        case tab=>exact rfl
        case tac=>exact rfl
        case tad=>decide
        case tae=>exact rfl
        case tag=>exact rfl
        intro v2 w7 hown2 hgrow2 hnil2 hat2
        have HM7:=LH (HQ5.out.app hown2 hgrow2)
        clear hown2 hgrow2 hnil2 hat2))
    go_roundw
    case rel=>exact ⟨i',HI',rfl,by have h:=HM7.out;rw [HI2.out] at h;show RMem w _ _ i' (iwl I i');rw [HNX'.out];exact h⟩
    case measure=>exact HMS.out
  ·have hin:i=n:=by have:=Hi.out;omega
   have T0:decide ((i:Int)<(n:Int))=false:=by simp<;> omega
   have T0':decide (i<n)=false:=dF hlt
   obtain ⟨A9,cap9,h9,hc9,hs9⟩:=HQ.out.strs (iwl_len I i).symm HN300.out
   injection h9 with g1 g2 g3
   subst g1 g3
   have h6:∀k,k<i→((fun k=>(iwl I i).getD k ByteArray.empty) k).size≤2500:=fun k hk=>by
        show ((iwl I i).getD k ByteArray.empty).size≤2500
        rw [iwl_at I hk]
        exact Itw.size (HOK.out k (by have:=Hi.out;omega))
   have J:=tjoinW A8 i cap8 (fun k=>(iwl I i).getD k ByteArray.empty) hc9 (by have:=Hi.out;have:=H12.out;omega) h6 wr hs9
   have hln:=jn_len (fun k=>(iwl I i).getD k ByteArray.empty) 2500 i h6
   rw [wl_iwl] at J hln
   have HJ:=LH J
   have HW:=LH HQ.out.2
   have hsz:(((⟨(jn (iwl I n)).toArray⟩:ByteArray).size:Nat):Int)≤8388608:=by
        have e:(⟨(jn (iwl I n)).toArray⟩:ByteArray).size=(jn (iwl I n)).length:=rfl
        rw [e,←hin]
        have:=H12.out
        have:=Nat.mul_le_mul_right 2501 (show i≤12 by omega)
        omega
   have HEND:Hid ((⟨(jn (iwl I n)).toArray⟩:ByteArray)++(⟨#[10]⟩:ByteArray)=⟨(jn (iwl I n)++[10]).toArray⟩):=line_end _
   rw [hin] at HJ T0 T0'⊢
   clear J hs9 hc9 hlt hin h6 hln
   generalize (⟨(jn (iwl I n)).toArray⟩:ByteArray)=jj at HJ hsz HEND
   go_wp2_with (first
        |(go_at_call 50
          with_reducible refine HJ.out.mono ?_
          rintro e w6 ⟨rfl,hb6⟩
          have H6:=LH (zA1 HW.out hb6)
          clear hb6))
   go_ret
   exact ⟨by rw [←HEND.out];rfl,H6.out⟩
theorem zI3 (w:World) (o:Obj) (t:TypeId) (cs:Array Value):Blk ((w.alloc o).alloc (.cells cs t)) (w.heap.size+1) t cs:=by
 have:=Blk.new (w.alloc o) t cs
 rwa [World.size_alloc] at this
def iL (l:List Itw) (k:Nat):Itw:=l.getD k (.n 0)
theorem iwl_list (l:List Itw):iwl (iL l) l.length=l.map Itw.txt:=by
 apply List.ext_getElem (by simp [iwl])
 intro k h1 h2
 simp only [List.length_map] at h2
 simp [iwl,iL,List.getD,h2]
theorem iw_of_blk {w:World} {g:Nat} {l:List Itw} (h:Blk w g 20 (l.map Itw.val).toArray):IwAt w g 0 l.length (iL l):=by
 refine ⟨h.lt,fun k hk=>?_⟩
 rw [Nat.zero_add,h.cell k]
 simp [iL,List.getD,hk]
theorem zJ2 (l:List Itw) (h12:l.length≤12) (g c:Nat) (w w0:World) (hw:Below w0.heap.size w0 w) (hok:∀x,x∈l→x.ok w) (hE:Env w) (hb:Blk w g 20 (l.map Itw.val).toArray):
 Calls Tryz.prog 125 #[.slice (some ⟨g,0,none⟩) l.length c] w fun e w'=>e= .returned (.string ⟨(jn (l.map Itw.txt)++[10]).toArray⟩)∧Below w.heap.size w w':=by
 have:=twords g 0 l.length c (iL l) h12 w (fun k hk=>by
  unfold iL
  rw [List.getD_eq_getElem?_getD,List.getElem?_eq_getElem hk]
  exact hok _ (List.getElem_mem hk)) hE (iw_of_blk hb)
 rw [iwl_list] at this
 exact this
theorem Itw.ok.below {w w':World} {x:Itw} (h:x.ok w) (hb:Below w.heap.size w w'):x.ok w':=by
 cases x with
 |s b=>exact h
 |n z=>exact h
 |t g off c T=>exact ⟨h.1,h.2.1.below hb h.2.1.1,h.2.2⟩
set_option maxRecDepth 100000 in
set_option maxHeartbeats 2000000 in
theorem nlM (nm:ByteArray) (ax ay iv gd rs:Int) (b off tn c:Nat) (pt:Bool) (z:ByteArray) (w:World)
 (SK:∀g cc w',Below w.heap.size w w'→Blk w' g 20 #[.iface 9 (.string ⟨#[109,97,110,104,111,108,101]⟩),.iface 9 (.string nm),.iface 3 (.int .i64 ax),.iface 3 (.int .i64 ay),.iface 3 (.int .i64 iv),.iface 3 (.int .i64 gd),.iface 53 (.slice (some ⟨b,off,none⟩) tn c)]→Calls Tryz.prog 125 #[.slice (some ⟨g,0,none⟩) 7 cc] w' fun e w''=>e= .returned (.string z)∧Below w'.heap.size w' w''):
 Calls Tryz.prog 84 #[.agg #[.string nm,.int .i64 1,.int .i64 ax,.int .i64 ay,.int .i64 iv,.int .i64 gd,.slice (some ⟨b,off,none⟩) tn c,.bool pt,.int .i64 rs]] w fun e w'=>e= .returned (.string z)∧Below w.heap.size w w':=by
 have HSK:=LH SK
 clear SK
 go_enter Tryz.func84,Tryz.ntmps84
 go_wp2_with (first
  |(go_at_call 125
    refine (HSK.out _ _ _ ?_ ?_).mono ?_
    focus (exact bel)
    focus (exact zI3 _ _ _ _)
    rintro e w5 ⟨rfl,hb5⟩
    have HB5:Hid (Below w.heap.size w w5):=zA1 bel hb5
    clear hb5))
 go_ret
 exact ⟨rfl,HB5.out⟩
set_option maxRecDepth 100000 in
set_option maxHeartbeats 2000000 in
theorem nlT (nm:ByteArray) (ax ay iv gd rs:Int) (b off tn c:Nat)  (z:ByteArray) (w:World)
 (SK:∀g cc w',Below w.heap.size w w'→Blk w' g 20 #[.iface 9 (.string ⟨#[116,97,110,107]⟩),.iface 9 (.string nm),.iface 3 (.int .i64 ax),.iface 3 (.int .i64 ay),.iface 3 (.int .i64 iv),.iface 3 (.int .i64 gd),.iface 3 (.int .i64 rs),.iface 53 (.slice (some ⟨b,off,none⟩) tn c)]→Calls Tryz.prog 125 #[.slice (some ⟨g,0,none⟩) 8 cc] w' fun e w''=>e= .returned (.string z)∧Below w'.heap.size w' w''):
 Calls Tryz.prog 84 #[.agg #[.string nm,.int .i64 2,.int .i64 ax,.int .i64 ay,.int .i64 iv,.int .i64 gd,.slice (some ⟨b,off,none⟩) tn c,.bool true,.int .i64 rs]] w fun e w'=>e= .returned (.string z)∧Below w.heap.size w w':=by
 have HSK:=LH SK
 clear SK
 go_enter Tryz.func84,Tryz.ntmps84
 go_wp2_with (first
  |(go_at_call 125
    refine (HSK.out _ _ _ ?_ ?_).mono ?_
    focus (exact bel)
    focus (exact zI3 _ _ _ _)
    rintro e w5 ⟨rfl,hb5⟩
    have HB5:Hid (Below w.heap.size w w5):=zA1 bel hb5
    clear hb5))
 go_ret
 exact ⟨rfl,HB5.out⟩
set_option maxRecDepth 100000 in
set_option maxHeartbeats 2000000 in
theorem nlU (nm:ByteArray) (ax ay iv gd rs:Int) (b off tn c:Nat)  (z:ByteArray) (w:World)
 (SK:∀g cc w',Below w.heap.size w w'→Blk w' g 20 #[.iface 9 (.string ⟨#[116,97,110,107]⟩),.iface 9 (.string nm),.iface 3 (.int .i64 ax),.iface 3 (.int .i64 ay),.iface 3 (.int .i64 iv),.iface 3 (.int .i64 gd),.iface 9 (.string ⟨#[45]⟩),.iface 53 (.slice (some ⟨b,off,none⟩) tn c)]→Calls Tryz.prog 125 #[.slice (some ⟨g,0,none⟩) 8 cc] w' fun e w''=>e= .returned (.string z)∧Below w'.heap.size w' w''):
 Calls Tryz.prog 84 #[.agg #[.string nm,.int .i64 2,.int .i64 ax,.int .i64 ay,.int .i64 iv,.int .i64 gd,.slice (some ⟨b,off,none⟩) tn c,.bool false,.int .i64 rs]] w fun e w'=>e= .returned (.string z)∧Below w.heap.size w w':=by
 have HSK:=LH SK
 clear SK
 go_enter Tryz.func84,Tryz.ntmps84
 go_wp2_with (first
  |(go_at_call 125
    refine (HSK.out _ _ _ ?_ ?_).mono ?_
    focus (exact bel)
    focus (exact zI3 _ _ _ _)
    rintro e w5 ⟨rfl,hb5⟩
    have HB5:Hid (Below w.heap.size w w5):=zA1 bel hb5
    clear hb5))
 go_ret
 exact ⟨rfl,HB5.out⟩
set_option maxRecDepth 100000 in
set_option maxHeartbeats 2000000 in
theorem nlO (nm:ByteArray) (ax ay iv gd rs:Int) (A:Option Addr) (tn c:Nat) (pt:Bool) (z:ByteArray) (w:World)
 (SK:∀g cc w',Below w.heap.size w w'→Blk w' g 20 #[.iface 9 (.string ⟨#[111,117,116,102,97,108,108]⟩),.iface 9 (.string nm),.iface 3 (.int .i64 ax),.iface 3 (.int .i64 ay),.iface 3 (.int .i64 iv),.iface 3 (.int .i64 gd)]→Calls Tryz.prog 125 #[.slice (some ⟨g,0,none⟩) 6 cc] w' fun e w''=>e= .returned (.string z)∧Below w'.heap.size w' w''):
 Calls Tryz.prog 84 #[.agg #[.string nm,.int .i64 3,.int .i64 ax,.int .i64 ay,.int .i64 iv,.int .i64 gd,.slice A tn c,.bool pt,.int .i64 rs]] w fun e w'=>e= .returned (.string z)∧Below w.heap.size w w':=by
 have HSK:=LH SK
 clear SK
 go_enter Tryz.func84,Tryz.ntmps84
 go_wp2_with (first
  |(go_at_call 125
    refine (HSK.out _ _ _ ?_ ?_).mono ?_
    focus (exact bel)
    focus (exact zI3 _ _ _ _)
    rintro e w5 ⟨rfl,hb5⟩
    have HB5:Hid (Below w.heap.size w w5):=zA1 bel hb5
    clear hb5))
 go_ret
 exact ⟨rfl,HB5.out⟩
set_option maxRecDepth 100000 in
set_option maxHeartbeats 2000000 in
theorem llP (nm fr tn2 sc:ByteArray) (ln up dn wd ht:Int) (A:Option Addr) (tn c:Nat)  (z:ByteArray) (w:World)
 (SK:∀g cc w',Below w.heap.size w w'→Blk w' g 20 #[.iface 9 (.string ⟨#[112,105,112,101]⟩),.iface 9 (.string nm),.iface 9 (.string fr),.iface 9 (.string tn2),.iface 3 (.int .i64 ln),.iface 3 (.int .i64 up),.iface 3 (.int .i64 dn),.iface 9 (.string sc)]→Calls Tryz.prog 125 #[.slice (some ⟨g,0,none⟩) 8 cc] w' fun e w''=>e= .returned (.string z)∧Below w'.heap.size w' w''):
 Calls Tryz.prog 85 #[.agg #[.string nm,.string fr,.string tn2,.int .i64 1,.int .i64 ln,.int .i64 up,.int .i64 dn,.string sc,.int .i64 wd,.int .i64 ht,.slice A tn c]] w fun e w'=>e= .returned (.string z)∧Below w.heap.size w w':=by
 have HSK:=LH SK
 clear SK
 go_enter Tryz.func85,Tryz.ntmps85
 go_wp2_with (first
  |(go_at_call 125
    refine (HSK.out _ _ _ ?_ ?_).mono ?_
    focus (exact bel)
    focus (exact zI3 _ _ _ _)
    rintro e w5 ⟨rfl,hb5⟩
    have HB5:Hid (Below w.heap.size w w5):=zA1 bel hb5
    clear hb5))
 go_ret
 exact ⟨rfl,HB5.out⟩
set_option maxRecDepth 100000 in
set_option maxHeartbeats 2000000 in
theorem llW (nm fr tn2 sc:ByteArray) (ln up dn wd ht:Int) (A:Option Addr) (tn c:Nat)  (z:ByteArray) (w:World)
 (SK:∀g cc w',Below w.heap.size w w'→Blk w' g 20 #[.iface 9 (.string ⟨#[119,101,105,114]⟩),.iface 9 (.string nm),.iface 9 (.string fr),.iface 9 (.string tn2),.iface 3 (.int .i64 up),.iface 3 (.int .i64 wd)]→Calls Tryz.prog 125 #[.slice (some ⟨g,0,none⟩) 6 cc] w' fun e w''=>e= .returned (.string z)∧Below w'.heap.size w' w''):
 Calls Tryz.prog 85 #[.agg #[.string nm,.string fr,.string tn2,.int .i64 2,.int .i64 ln,.int .i64 up,.int .i64 dn,.string sc,.int .i64 wd,.int .i64 ht,.slice A tn c]] w fun e w'=>e= .returned (.string z)∧Below w.heap.size w w':=by
 have HSK:=LH SK
 clear SK
 go_enter Tryz.func85,Tryz.ntmps85
 go_wp2_with (first
  |(go_at_call 125
    refine (HSK.out _ _ _ ?_ ?_).mono ?_
    focus (exact bel)
    focus (exact zI3 _ _ _ _)
    rintro e w5 ⟨rfl,hb5⟩
    have HB5:Hid (Below w.heap.size w w5):=zA1 bel hb5
    clear hb5))
 go_ret
 exact ⟨rfl,HB5.out⟩
set_option maxRecDepth 100000 in
set_option maxHeartbeats 2000000 in
theorem llG (nm fr tn2 sc:ByteArray) (ln up dn wd ht:Int) (A:Option Addr) (tn c:Nat)  (z:ByteArray) (w:World)
 (SK:∀g cc w',Below w.heap.size w w'→Blk w' g 20 #[.iface 9 (.string ⟨#[103,97,116,101]⟩),.iface 9 (.string nm),.iface 9 (.string fr),.iface 9 (.string tn2),.iface 3 (.int .i64 up),.iface 3 (.int .i64 wd),.iface 3 (.int .i64 ht)]→Calls Tryz.prog 125 #[.slice (some ⟨g,0,none⟩) 7 cc] w' fun e w''=>e= .returned (.string z)∧Below w'.heap.size w' w''):
 Calls Tryz.prog 85 #[.agg #[.string nm,.string fr,.string tn2,.int .i64 3,.int .i64 ln,.int .i64 up,.int .i64 dn,.string sc,.int .i64 wd,.int .i64 ht,.slice A tn c]] w fun e w'=>e= .returned (.string z)∧Below w.heap.size w w':=by
 have HSK:=LH SK
 clear SK
 go_enter Tryz.func85,Tryz.ntmps85
 go_wp2_with (first
  |(go_at_call 125
    refine (HSK.out _ _ _ ?_ ?_).mono ?_
    focus (exact bel)
    focus (exact zI3 _ _ _ _)
    rintro e w5 ⟨rfl,hb5⟩
    have HB5:Hid (Below w.heap.size w w5):=zA1 bel hb5
    clear hb5))
 go_ret
 exact ⟨rfl,HB5.out⟩
set_option maxRecDepth 100000 in
set_option maxHeartbeats 2000000 in
theorem llQ (nm fr tn2 sc:ByteArray) (ln up dn wd ht:Int) (b off tn c:Nat)  (z:ByteArray) (w:World)
 (SK:∀g cc w',Below w.heap.size w w'→Blk w' g 20 #[.iface 9 (.string ⟨#[112,117,109,112]⟩),.iface 9 (.string nm),.iface 9 (.string fr),.iface 9 (.string tn2),.iface 3 (.int .i64 up),.iface 3 (.int .i64 dn),.iface 53 (.slice (some ⟨b,off,none⟩) tn c)]→Calls Tryz.prog 125 #[.slice (some ⟨g,0,none⟩) 7 cc] w' fun e w''=>e= .returned (.string z)∧Below w'.heap.size w' w''):
 Calls Tryz.prog 85 #[.agg #[.string nm,.string fr,.string tn2,.int .i64 4,.int .i64 ln,.int .i64 up,.int .i64 dn,.string sc,.int .i64 wd,.int .i64 ht,.slice (some ⟨b,off,none⟩) tn c]] w fun e w'=>e= .returned (.string z)∧Below w.heap.size w w':=by
 have HSK:=LH SK
 clear SK
 go_enter Tryz.func85,Tryz.ntmps85
 go_wp2_with (first
  |(go_at_call 125
    refine (HSK.out _ _ _ ?_ ?_).mono ?_
    focus (exact bel)
    focus (exact zI3 _ _ _ _)
    rintro e w5 ⟨rfl,hb5⟩
    have HB5:Hid (Below w.heap.size w w5):=zA1 bel hb5
    clear hb5))
 go_ret
 exact ⟨rfl,HB5.out⟩
theorem k_man {x:Ndr} (h:x.kd=1):(⟨(ndK x).toArray⟩:ByteArray)=⟨#[109,97,110,104,111,108,101]⟩:=by unfold ndK;rw [h];rfl
theorem k_tank {x:Ndr} (h:x.kd=2):(⟨(ndK x).toArray⟩:ByteArray)=⟨#[116,97,110,107]⟩:=by unfold ndK;rw [h];rfl
theorem k_out {x:Ndr} (h:x.kd=3):(⟨(ndK x).toArray⟩:ByteArray)=⟨#[111,117,116,102,97,108,108]⟩:=by unfold ndK;rw [h];rfl
theorem k_pipe {x:Lkr} (h:x.kd=1):(⟨(lkK x).toArray⟩:ByteArray)=⟨#[112,105,112,101]⟩:=by unfold lkK;rw [h];rfl
theorem k_weir {x:Lkr} (h:x.kd=2):(⟨(lkK x).toArray⟩:ByteArray)=⟨#[119,101,105,114]⟩:=by unfold lkK;rw [h];rfl
theorem k_gate {x:Lkr} (h:x.kd=3):(⟨(lkK x).toArray⟩:ByteArray)=⟨#[103,97,116,101]⟩:=by unfold lkK;rw [h];rfl
theorem k_pump {x:Lkr} (h:x.kd=4):(⟨(lkK x).toArray⟩:ByteArray)=⟨#[112,117,109,112]⟩:=by unfold lkK;rw [h];rfl
theorem tab_at {w:World} {A:Option Addr} {n:Nat} {X Y:Nat→Int} (h:TabIn w A n X Y) (hn:1≤n):∃b off,A=some ⟨b,off,none⟩∧TabAt w b off n X Y:=by
 rcases h.2 with h0 |⟨b,off,hb,ht⟩
 ·omega
 ·exact ⟨b,off,hb,ht⟩
theorem zF3 {b:ByteArray} {w:World} (h:zD3 b.data.toList=true):(Itw.s b).ok w:=by
 have:=(zF5 h).2.2.2
 show b.data.toList.length≤600
 omega
theorem tnodeLine (x:Ndr) (A:Option Addr) (c:Nat) (hv:vNd x) (w:World) (hE:Env w) (ht:TabIn w A x.T.length (kX x.T) (kY x.T)):
 Calls Tryz.prog 84 #[.agg (ncs x A c).toArray] w fun e w'=>e= .returned (.string ⟨(ndT x++[10]).toArray⟩)∧Below w.heap.size w w':=by
 obtain ⟨n1,n2,n3,n4,n5⟩:=hv.num
 have hnm:=hv.1
 have htab:=hv.tab
 have hform:=hv.form.kd
 unfold ndT ndB
 obtain ⟨nm,kd,ax,ay,iv,gd,T,pt,rs⟩:=x
 simp only at*
 rcases hform with ⟨rfl,h2,h3,h4⟩|⟨rfl,h2,h3⟩|⟨rfl,h2,h3,h4⟩
 ·obtain ⟨b,off,rfl,hta⟩:=tab_at ht h2.1
  obtain ⟨t1,t2⟩:=htab (by decide)
  rw [k_man rfl,if_neg (by decide),if_neg (by decide)]
  refine nlM nm ax ay iv gd rs b off T.length c pt _ w fun g cc w' hb hk=>?_
  exact zJ2 [.s ⟨#[109,97,110,104,111,108,101]⟩,.s nm,.n ax,.n ay,.n iv,.n gd,.t b off c T] (by simp) g cc w' w hb (by
   intro y hy
   simp only [List.mem_cons,List.not_mem_nil,or_false] at hy
   rcases hy with rfl |rfl |rfl |rfl |rfl |rfl |rfl
   ·show (7:Nat)≤600;decide
   ·exact zF3 hnm
   ·exact n1
   ·exact n2
   ·exact n3
   ·exact n4
   ·exact Itw.ok.below (x:=.t b off c T) ⟨t1,hta,t2⟩ hb) (hE.below hb) hk
 ·obtain ⟨b,off,rfl,hta⟩:=tab_at ht h2.1
  obtain ⟨t1,t2⟩:=htab (by decide)
  rw [k_tank rfl,if_neg (by decide),if_pos rfl]
  cases pt with
  |true=>
   refine nlT nm ax ay iv gd rs b off T.length c _ w fun g cc w' hb hk=>?_
   exact zJ2 [.s ⟨#[116,97,110,107]⟩,.s nm,.n ax,.n ay,.n iv,.n gd,.n rs,.t b off c T] (by simp) g cc w' w hb (by
        intro y hy
        simp only [List.mem_cons,List.not_mem_nil,or_false] at hy
        rcases hy with rfl |rfl |rfl |rfl |rfl |rfl |rfl |rfl
        ·show (4:Nat)≤600;decide
        ·exact zF3 hnm
        ·exact n1
        ·exact n2
        ·exact n3
        ·exact n4
        ·exact n5
        ·exact Itw.ok.below (x:=.t b off c T) ⟨t1,hta,t2⟩ hb) (hE.below hb) hk
  |false=>
   refine nlU nm ax ay iv gd rs b off T.length c _ w fun g cc w' hb hk=>?_
   exact zJ2 [.s ⟨#[116,97,110,107]⟩,.s nm,.n ax,.n ay,.n iv,.n gd,.s ⟨#[45]⟩,.t b off c T] (by simp) g cc w' w hb (by
        intro y hy
        simp only [List.mem_cons,List.not_mem_nil,or_false] at hy
        rcases hy with rfl |rfl |rfl |rfl |rfl |rfl |rfl |rfl
        ·show (4:Nat)≤600;decide
        ·exact zF3 hnm
        ·exact n1
        ·exact n2
        ·exact n3
        ·exact n4
        ·show (1:Nat)≤600;decide
        ·exact Itw.ok.below (x:=.t b off c T) ⟨t1,hta,t2⟩ hb) (hE.below hb) hk
 ·rw [k_out rfl,if_pos rfl]
  refine nlO nm ax ay iv gd rs A T.length c pt _ w fun g cc w' hb hk=>?_
  exact zJ2 [.s ⟨#[111,117,116,102,97,108,108]⟩,.s nm,.n ax,.n ay,.n iv,.n gd] (by simp) g cc w' w hb (by
   intro y hy
   simp only [List.mem_cons,List.not_mem_nil,or_false] at hy
   rcases hy with rfl |rfl |rfl |rfl |rfl |rfl
   ·show (7:Nat)≤600;decide
   ·exact zF3 hnm
   ·exact n1
   ·exact n2
   ·exact n3
   ·exact n4) (hE.below hb) hk
theorem tlinkLine (x:Lkr) (A:Option Addr) (c:Nat) (hv:vLk x) (w:World) (hE:Env w) (ht:TabIn w A x.T.length (kX x.T) (kY x.T)):
 Calls Tryz.prog 85 #[.agg (lcs x A c).toArray] w fun e w'=>e= .returned (.string ⟨(lkT x++[10]).toArray⟩)∧Below w.heap.size w w':=by
 obtain ⟨n1,n2,n3,n4,n5⟩:=hv.num
 have hnm:=hv.1
 have hfr:=hv.2.1
 have htn:=hv.2.2.1
 have hsc:x.kd=1→zD3 x.sc.data.toList=true:=fun hk=>by
  rcases hv.2.2.2.2.2.2 with h |h |h |h
  ·exact h.2.2.1
  all_goals (rw [h.1] at hk;exact absurd hk (by decide))
 have htab:=hv.tab
 have hform:=hv.form.kd
 unfold lkT lkB
 obtain ⟨nm,fr,tn,kd,ln,up,dn,sc,wd,hgt,T⟩:=x
 simp only at*
 rcases hform with ⟨rfl,_⟩|⟨rfl,_⟩|⟨rfl,_⟩|⟨rfl,_⟩
 ·have hs:=hsc rfl
  rw [k_pipe rfl,if_pos rfl]
  refine llP nm fr tn sc ln up dn wd hgt A T.length c _ w fun g cc w' hb hk=>?_
  exact zJ2 [.s ⟨#[112,105,112,101]⟩,.s nm,.s fr,.s tn,.n ln,.n up,.n dn,.s sc] (by simp) g cc w' w hb (by
   intro y hy
   simp only [List.mem_cons,List.not_mem_nil,or_false] at hy
   rcases hy with rfl |rfl |rfl |rfl |rfl |rfl |rfl |rfl
   ·show (4:Nat)≤600;decide
   ·exact zF3 hnm
   ·exact zF3 hfr
   ·exact zF3 htn
   ·exact n1
   ·exact n2
   ·exact n3
   ·exact zF3 hs) (hE.below hb) hk
 ·rw [k_weir rfl,if_neg (by decide),if_pos rfl]
  refine llW nm fr tn sc ln up dn wd hgt A T.length c _ w fun g cc w' hb hk=>?_
  exact zJ2 [.s ⟨#[119,101,105,114]⟩,.s nm,.s fr,.s tn,.n up,.n wd] (by simp) g cc w' w hb (by
   intro y hy
   simp only [List.mem_cons,List.not_mem_nil,or_false] at hy
   rcases hy with rfl |rfl |rfl |rfl |rfl |rfl
   ·show (4:Nat)≤600;decide
   ·exact zF3 hnm
   ·exact zF3 hfr
   ·exact zF3 htn
   ·exact n2
   ·exact n4) (hE.below hb) hk
 ·rw [k_gate rfl,if_neg (by decide),if_neg (by decide),if_pos rfl]
  refine llG nm fr tn sc ln up dn wd hgt A T.length c _ w fun g cc w' hb hk=>?_
  exact zJ2 [.s ⟨#[103,97,116,101]⟩,.s nm,.s fr,.s tn,.n up,.n wd,.n hgt] (by simp) g cc w' w hb (by
   intro y hy
   simp only [List.mem_cons,List.not_mem_nil,or_false] at hy
   rcases hy with rfl |rfl |rfl |rfl |rfl |rfl |rfl
   ·show (4:Nat)≤600;decide
   ·exact zF3 hnm
   ·exact zF3 hfr
   ·exact zF3 htn
   ·exact n2
   ·exact n4
   ·exact n5) (hE.below hb) hk
 ·obtain ⟨t1,t2⟩:=htab (by decide)
  obtain ⟨b,off,rfl,hta⟩:=tab_at ht t1.1
  rw [k_pump rfl,if_neg (by decide),if_neg (by decide),if_neg (by decide)]
  refine llQ nm fr tn sc ln up dn wd hgt b off T.length c _ w fun g cc w' hb hk=>?_
  exact zJ2 [.s ⟨#[112,117,109,112]⟩,.s nm,.s fr,.s tn,.n up,.n dn,.t b off c T] (by simp) g cc w' w hb (by
   intro y hy
   simp only [List.mem_cons,List.not_mem_nil,or_false] at hy
   rcases hy with rfl |rfl |rfl |rfl |rfl |rfl |rfl
   ·show (4:Nat)≤600;decide
   ·exact zF3 hnm
   ·exact zF3 hfr
   ·exact zF3 htn
   ·exact n2
   ·exact n3
   ·exact Itw.ok.below (x:=.t b off c T) ⟨t1,hta,nT t2 (by omega)⟩ hb) (hE.below hb) hk
end Go.Proofs.YtghefgifhebniaaGreatDoor

/- Merged texts of these proofs: CtQ, Rnb, Rnh, CtL. -/
import Derived.Test.YtghefgifhebniaaGreatDoorMgB
import Derived.Test.YtghefgifhebniaaGreatDoorMgS
import Derived.Test.YtghefgifhebniaaGreatDoorMgT
import Derived.Test.YtghefgifhebniaaGreatDoorMgA
import Derived.Test.YtghefgifhebniaaGreatDoorMgW
import Derived.BigRegion
import Derived.Test.YtghefgifhebniaaGreatDoorMgV
namespace Go.Proofs.YtghefgifhebniaaGreatDoor
open Go
set_option linter.unusedVariables false
set_option linter.unusedSimpArgs false
theorem wds_memC:∀(l:List UInt8) (x:List UInt8) (c:UInt8),x∈wds l→c∈x→c∈l
 |[],x,c,hx,hc=>by simp [wds] at hx;subst hx;exact hc
 |d::r,x,c,hx,hc=>by
  unfold wds at hx
  split at hx
  ·rcases List.mem_cons.1 hx with rfl |h
   ·cases hc
   ·exact List.mem_cons_of_mem _ (wds_memC r x c h hc)
  ·cases e:wds r with
   |nil=>exact absurd e (zH0 r)
   |cons a t=>
    rw [e] at hx
    rcases List.mem_cons.1 hx with rfl |h'
    ·rcases List.mem_cons.1 hc with rfl |h1
     ·simp
     ·exact List.mem_cons_of_mem _ (wds_memC r a c (by rw [e];simp) h1)
    ·exact List.mem_cons_of_mem _ (wds_memC r x c (by rw [e];simp [h']) hc)
theorem ndW_len (y:Ndr):5≤(ndW y).length:=by simp [ndW]
theorem lkW_len (y:Lkr):5≤(lkW y).length:=by
 simp only [lkW,List.length_cons]
 have:2≤(if y.kd=1 then [Lib.itoa y.ln,Lib.itoa y.up,Lib.itoa y.dn,y.sc.data.toList] else if y.kd=2 then [Lib.itoa y.up,Lib.itoa y.wd] else if y.kd=3 then [Lib.itoa y.up,Lib.itoa y.wd,Lib.itoa y.ht] else Lib.itoa y.up::Lib.itoa y.dn::twd y.T).length:=by
  repeat' split
  all_goals simp
 omega
theorem nd_short {l:List UInt8} {R:List ByteArray} {r:ByteArray} (h:CutR l 6 R r) (hn:R.length≠6) (y:Ndr):¬IsNd l y:=fun hy=>by
 cases h with
 |all h1 h2 h3=>
  have e:=congrArg List.length hy.2
  rw [h1,lm_len,List.length_cons] at e
  have:=ndW_len y
  omega
 |part _ h1 h2=>exact hn h2
theorem lk_short {l:List UInt8} {R:List ByteArray} {r:ByteArray} (h:CutR l 6 R r) (hn:R.length<6) (y:Lkr):¬IsLk l y:=fun hy=>by
 cases h with
 |all h1 h2 h3=>
  have e:=congrArg List.length hy.2
  rw [h1,lm_len,List.length_cons] at e
  have:=lkW_len y
  omega
 |part _ h1 h2=>omega
theorem cut_le {l:List UInt8} {n:Nat} {R:List ByteArray} {r:ByteArray} (h:CutR l n R r):R.length≤n∧(1≤n→R≠[]):=by
 cases h with
 |all h1 h2 h3=>exact ⟨h2,fun _=>h3⟩
 |part _ h1 h2=>exact ⟨by omega,fun h e=>by rw [e] at h2;simp at h2;omega⟩
def Tl (t:List (List UInt8)) (r:ByteArray):Prop:=(t=[]∧r=⟨#[]⟩)∨t=wds r.data.toList
theorem cut_form {l:List UInt8} {n:Nat} {R:List ByteArray} {r:ByteArray} (h:CutR l n R r):∃t,wds l=lm R++t∧Tl t r:=by
 cases h with
 |all h1 h2 h3=>exact ⟨[],by rw [h1,List.append_nil],.inl ⟨rfl,rfl⟩⟩
 |part _ h1 h2=>exact ⟨_,h1,.inr rfl⟩
theorem six {R:List ByteArray} (h:R.length=6):∃a b c d e f,R=[a,b,c,d,e,f]:=by
 match R,h with
 |[a,b,c,d,e,f],_=>exact ⟨a,b,c,d,e,f,rfl⟩
theorem one {R:List ByteArray} (h:R.length=1):∃a,R=[a]:=by
 match R,h with
 |[a],_=>exact ⟨a,rfl⟩
structure Six (l:List UInt8) (k0 nm a b c d:ByteArray) (t:List (List UInt8)):Prop where
 eq:wds l=k0.data.toList::nm.data.toList::a.data.toList::b.data.toList::c.data.toList::d.data.toList::t
theorem Six.nd {l:List UInt8} {k0 nm a b c d:ByteArray} {t:List (List UInt8)} (h:Six l k0 nm a b c d t) {y:Ndr} (hy:IsNd l y):
 k0.data.toList=ndK y∧nm=y.nm∧a.data.toList=Lib.itoa y.ax∧b.data.toList=Lib.itoa y.ay∧c.data.toList=Lib.itoa y.iv∧d.data.toList=Lib.itoa y.gd∧t=(if y.kd=3 then [] else if y.kd=2 then (if y.pt then Lib.itoa y.rs else [45])::twd y.T else twd y.T):=by
 have e:=hy.2
 rw [h.eq] at e
 simp only [ndW,List.cons.injEq] at e
 obtain ⟨e0,e1,e2,e3,e4,e5,e6⟩:=e
 exact ⟨e0,zD4 e1,e2,e3,e4,e5,e6⟩
theorem Six.wd {l:List UInt8} {k0 nm a b c d:ByteArray} {t:List (List UInt8)} (h:Six l k0 nm a b c d t) (h10:(10:UInt8)∉l) {x:ByteArray} (hx:x.data.toList∈wds l) (hne:x.data.toList≠[]):wdOK x:=by
 refine ⟨hne,?_,fun hc=>h10 (wds_memC l _ _ hx hc)⟩
 have key:∀l:List UInt8,∀x,x∈wds l→(32:UInt8)∉x:=by
  intro l
  induction l with
  |nil=>intro x hx;simp [wds] at hx;simp [hx]
  |cons c r ih=>
   intro x hx
   unfold wds at hx
   split at hx
   ·rcases List.mem_cons.1 hx with rfl |h
    ·simp
    ·exact ih x h
   ·rename_i hc
    cases e:wds r with
    |nil=>exact absurd e (zH0 r)
    |cons a t=>
     rw [e] at hx ih
     rcases List.mem_cons.1 hx with rfl |h'
     ·intro h32
      rcases List.mem_cons.1 h32 with h1 |h1
      ·exact hc h1.symm
      ·exact ih a (by simp) h1
     ·exact ih x (by simp [h'])
 exact key l _ hx
theorem tx_ne {n:Nat} {X Y:Nat→Int} (h:1≤n):txL X Y n≠[]:=by
 intro e
 have h1:=wds_tx X Y (n - 1)
 rw [show n - 1+1=n by omega,e] at h1
 have h2:=congrArg List.length h1
 rw [kws_len] at h2
 simp [wds] at h2
 have h3:=congrArg (fun (l:List (List UInt8))=>l[0]?) h1
 simp only [kws_get X Y (show 0<n by omega)] at h3
 simp [wds] at h3
 have:=congrArg List.length h3
 unfold ktx at this
 simp at this
theorem twd_of {n:Nat} {X Y:Nat→Int} (h:1≤n):wds (txL X Y n)=twd (edl n X Y):=by
 unfold twd
 rw [zG9]
 have h1:=wds_tx X Y (n - 1)
 rw [show n - 1+1=n by omega] at h1
 rw [h1]
 unfold kws
 refine List.map_congr_left fun k hk=>?_
 obtain ⟨e1,e2⟩:=edl_at (X:=X) (Y:=Y) (List.mem_range.1 hk)
 rw [e1,e2]
theorem tabT_of {n:Nat} {X Y:Nat→Int} (h:TabOK n X Y):tabT (edl n X Y):=by
 unfold tabT
 rw [zG9]
 exact tabOK_eq (fun k hk=>⟨(edl_at hk).1.symm,(edl_at hk).2.symm⟩) h
theorem tl_tab {t:List (List UInt8)} {r:ByteArray} {n:Nat} {X Y:Nat→Int} (h:Tl t r) (hok:TabOK n X Y) (e:r.data.toList=txL X Y n):t=twd (edl n X Y):=by
 rcases h with ⟨_,h⟩|h
 ·rw [h] at e
  exact absurd e.symm (tx_ne hok.1)
 ·rw [h,e,twd_of hok.1]
theorem tl_no {t:List (List UInt8)} {r:ByteArray} (h:Tl t r) (hno:∀n X Y,TabOK n X Y→r.data.toList≠txL X Y n) {T:List (Int×Int)} (hT:tabT T):t≠twd T:=fun e=>by
 have hl:(twd T).length=T.length:=by unfold twd;exact kws_len _ _ _
 rcases h with ⟨h,_⟩|h
 ·rw [h] at e
  have:=congrArg List.length e
  rw [hl] at this
  have:=hT.1
  simp at*;omega
 ·refine hno T.length (kX T) (kY T) hT ?_
  apply wds_inj
  rw [←h,e,twd_of (X:=kX T) (Y:=kY T) hT.1,edl_self]
theorem Six.is_nd {l:List UInt8} {k0 nm a b c d:ByteArray} {t:List (List UInt8)} (h:Six l k0 nm a b c d t) (h10:(10:UInt8)∉l) (hnm:nm.data.toList≠[]) {v0 v1 v2 v3:Int} (hn:NumIs a.data.toList v0∧NumIs b.data.toList v1∧NumIs c.data.toList v2∧NumIs d.data.toList v3) {kd:Int} {T:List (Int×Int)} {pt:Bool} {rs:Int}
 (hk:k0.data.toList=ndK ⟨nm,kd,v0,v1,v2,v3,T,pt,rs⟩) (hkd:(kd=1∧tabT T∧pt=false∧rs=0)∨(kd=2∧tabT T∧((pt=false∧rs=0)∨(pt=true∧zE3 rs)))∨(kd=3∧T=[]∧pt=false∧rs=0)) (ht:t=(if kd=3 then [] else if kd=2 then (if pt then Lib.itoa rs else [45])::twd T else twd T)):IsNd l ⟨nm,kd,v0,v1,v2,v3,T,pt,rs⟩:=by
 refine ⟨⟨h.wd h10 (by rw [h.eq];simp) hnm,hn.1.ok,hn.2.1.ok,hn.2.2.1.ok,hn.2.2.2.ok,hkd⟩,?_⟩
 rw [h.eq,hk]
 simp only [ndW]
 rw [←ht,zB3 hn.1,zB3 hn.2.1,zB3 hn.2.2.1,zB3 hn.2.2.2]
theorem nd_kd {y:Ndr} (h:formN y):(ndK y=zG5→y.kd=1)∧(ndK y=kTank→y.kd=2)∧(ndK y=zG4→y.kd=3):=by
 unfold ndK
 rcases h.kd with ⟨h,_⟩|⟨h,_⟩|⟨h,_⟩<;> rw [h]<;> decide
theorem Six.out_yes {l:List UInt8} {k0 nm a b c d:ByteArray} {t:List (List UInt8)} (h:Six l k0 nm a b c d t) (h10:(10:UInt8)∉l) (hnm:nm.data.toList≠[]) {v0 v1 v2 v3:Int} (hn:NumIs a.data.toList v0∧NumIs b.data.toList v1∧NumIs c.data.toList v2∧NumIs d.data.toList v3) (hk:k0.data.toList=zG4) (hj:jn [k0,nm,a,b,c,d]=l):IsNd l ⟨nm,3,v0,v1,v2,v3,[],false,0⟩:=by
 refine h.is_nd h10 hnm hn hk (.inr (.inr ⟨rfl,rfl,rfl,rfl⟩)) ?_
 rw [if_pos rfl]
 cases t with
 |nil=>rfl
 |cons x t=>exact absurd hj (jn_more (t:=x::t) (by simp) (by simp) h.eq)
theorem Six.out_no {l:List UInt8} {k0 nm a b c d:ByteArray} {t:List (List UInt8)} (h:Six l k0 nm a b c d t) (hk:k0.data.toList=zG4) (hj:jn [k0,nm,a,b,c,d]≠l) (y:Ndr):¬IsNd l y:=fun hy=>by
 obtain ⟨e0,_,_,_,_,_,e6⟩:=h.nd hy
 have hkd:=(nd_kd hy.1).2.2 (by rw [←e0,hk])
 rw [if_pos hkd] at e6
 subst e6
 exact hj (jn_back (by simp) (by rw [h.eq];rfl))
theorem Six.man_no {l:List UInt8} {k0 nm a b c d:ByteArray} {t:List (List UInt8)} (h:Six l k0 nm a b c d t) (hko:k0.data.toList≠zG4) (hkt:k0.data.toList≠kTank) (hm:k0.data.toList≠zG5∨∀T,tabT T→t≠twd T) (y:Ndr):¬IsNd l y:=fun hy=>by
 obtain ⟨e0,_,_,_,_,_,e6⟩:=h.nd hy
 rcases ndK_vals y with e |e |e
 ·exact hko (by rw [e0,e])
 ·exact hkt (by rw [e0,e])
 ·rcases hm with hm |hm
  ·exact hm (by rw [e0,e])
  ·have hkd:=(nd_kd hy.1).1 e
   rw [hkd,if_neg (by decide),if_neg (by decide)] at e6
   have hT:tabT y.T:=by
        rcases hy.1.kd with ⟨_,g,_⟩|⟨g,_⟩|⟨g,_⟩
        ·exact g
        all_goals (rw [hkd] at g;exact absurd g (by decide))
   exact hm _ hT e6
theorem Six.tank {l:List UInt8} {k0 nm a b c d:ByteArray} {t:List (List UInt8)} (h:Six l k0 nm a b c d t) (hkt:k0.data.toList=kTank) {y:Ndr} (hy:IsNd l y):tabT y.T∧((y.pt=false∧t=[45]::twd y.T)∨(zE3 y.rs∧t=Lib.itoa y.rs::twd y.T)):=by
 obtain ⟨e0,_,_,_,_,_,e6⟩:=h.nd hy
 have hkd:=(nd_kd hy.1).2.1 (by rw [←e0,hkt])
 rw [hkd,if_neg (by decide),if_pos rfl] at e6
 rcases hy.1.kd with ⟨g,_⟩|⟨_,g,g2⟩|⟨g,_⟩
 ·rw [hkd] at g;exact absurd g (by decide)
 ·refine ⟨g,?_⟩
  rcases g2 with ⟨p,_⟩|⟨p,q⟩
  ·rw [p] at e6;exact .inl ⟨p,e6⟩
  ·rw [p] at e6;exact .inr ⟨q,e6⟩
 ·rw [hkd] at g;exact absurd g (by decide)
theorem tl_cut {t:List (List UInt8)} {r m0 r2:ByteArray} (h:Tl t r) (hc:CutR r.data.toList 1 [m0] r2):∃t2,Tl t2 r2∧((t=[]∧m0.data.toList=[])∨t=m0.data.toList::t2):=by
 obtain ⟨t2,e,h2⟩:=cut_form hc
 refine ⟨t2,h2,?_⟩
 rcases h with ⟨h,hr⟩|h
 ·refine .inl ⟨h,?_⟩
  rw [hr] at e
  have e2:([[]]:List (List UInt8))=m0.data.toList::t2:=e
  exact (List.cons.inj e2).1.symm
 ·exact .inr (by rw [h,e];rfl)
theorem tank_dash_no {l:List UInt8} {k0 nm a b c d m0:ByteArray} {t t2:List (List UInt8)} (h:Six l k0 nm a b c d t) (hkt:k0.data.toList=kTank) (ht:(t=[]∧m0.data.toList=[])∨t=m0.data.toList::t2) (hno:∀T,tabT T→t2≠twd T) (y:Ndr):¬IsNd l y:=fun hy=>by
 obtain ⟨hT,h2⟩:=h.tank hkt hy
 rcases ht with ⟨ht,_⟩|ht
 ·rw [ht] at h2;rcases h2 with ⟨_,h2⟩|⟨_,h2⟩<;> cases h2
 ·rw [ht] at h2
  rcases h2 with ⟨_,h2⟩|⟨_,h2⟩
  ·exact hno _ hT (List.cons.inj h2).2
  ·exact hno _ hT (List.cons.inj h2).2
theorem tank_num_no {l:List UInt8} {k0 nm a b c d m0:ByteArray} {t t2:List (List UInt8)} (h:Six l k0 nm a b c d t) (hkt:k0.data.toList=kTank) (ht:(t=[]∧m0.data.toList=[])∨t=m0.data.toList::t2) (hd:m0.data.toList≠[45]) (hno:∀v,¬NumIs m0.data.toList v) (y:Ndr):¬IsNd l y:=fun hy=>by
 obtain ⟨hT,h2⟩:=h.tank hkt hy
 rcases ht with ⟨ht,_⟩|ht
 ·rw [ht] at h2;rcases h2 with ⟨_,h2⟩|⟨_,h2⟩<;> cases h2
 ·rw [ht] at h2
  rcases h2 with ⟨_,h2⟩|⟨q,h2⟩
  ·exact hd (List.cons.inj h2).1
  ·exact hno _ (by rw [(List.cons.inj h2).1];exact zC8 q)
theorem tl_first {m0:ByteArray} {t t2:List (List UInt8)} (ht:(t=[]∧m0.data.toList=[])∨t=m0.data.toList::t2) (hne:m0.data.toList≠[]):t=m0.data.toList::t2:=by
 rcases ht with ⟨_,h⟩|h
 ·exact absurd h hne
 ·exact h
theorem Six.ends {l:List UInt8} {k0 nm a b c d:ByteArray} {t:List (List UInt8)} (h:Six l k0 nm a b c d t) {y:Lkr} (hy:IsLk l y):
 k0.data.toList=lkK y∧nm=y.nm∧a=y.fr∧b=y.tn∧c.data.toList::d.data.toList::t=(if y.kd=1 then [Lib.itoa y.ln,Lib.itoa y.up,Lib.itoa y.dn,y.sc.data.toList] else if y.kd=2 then [Lib.itoa y.up,Lib.itoa y.wd] else if y.kd=3 then [Lib.itoa y.up,Lib.itoa y.wd,Lib.itoa y.ht] else Lib.itoa y.up::Lib.itoa y.dn::twd y.T):=by
 have e:=hy.2
 rw [h.eq] at e
 simp only [lkW,List.cons.injEq] at e
 obtain ⟨e0,e1,e2,e3,e4⟩:=e
 exact ⟨e0,zD4 e1,zD4 e2,zD4 e3,e4⟩
open Go.RowKit
theorem infoInt:(Tryz.prog.info? 3).map (fun i=>(i.zero,i.size,i.bytes))=some (some (.int .i64 0),1,8):=by kernel_rfl
theorem hby_8 {n:Nat} (h:n≤300):(n+1)*8≤140737488355328:=by omega
def RNumsPost (w:World) (X:Nat→ByteArray) (n:Nat) (e:Ending) (w':World):Prop:=
 ((∃(V:List Int) (g cap:Nat),V.length=n∧(∀k,k<n→NumIs (X k).data.toList (V.getD k 0))∧e= .returned (.tuple #[.slice (some ⟨g,0,none⟩) n cap,.bool true])∧g<w'.heap.size∧n≤cap∧∀k,k<n→w'.cell? ⟨g,k,none⟩=some (.int .i64 (V.getD k 0)))∨
  ((∃k,k<n∧∀v,¬NumIs (X k).data.toList v)∧e= .returned (.tuple #[.slice none 0 0,.bool false])))∧Below w.heap.size w w'
structure NbI (w wr:World) (u:Value) (X:Nat→ByteArray) (i:Nat) (V:List Int):Prop where
 ln:V.length=i
 nm:∀k,k<i→NumIs (X k).data.toList (V.getD k 0)
 rw:wr.ownsRow w.heap.size 3 1 u i (ic V)
 bl:Below w.heap.size w wr
theorem ic_snoc (V:List Int) (v:Int):ic (V++[v])=ic V++[.int .i64 v]:=by simp [ic]
theorem NbI.app {w wr w':World} {u u':Value} {X:Nat→ByteArray} {i:Nat} {V:List Int} {v:Int} (h:NbI w wr u X i V) (hv:NumIs (X i).data.toList v) {cs:Array Value} (hown:w'.ownsRow w.heap.size 3 1 u' (i+1) (ic V++[.int .i64 v])) (hg:(wr.alloc (.cells cs 3)).grownBy w' u.ownBlock):NbI w w' u' X (i+1) (V++[v]):=by
 refine ⟨by rw [List.length_append,h.ln];rfl,fun k hk=>?_,by rw [ic_snoc];exact hown,zJ8 (h.rw.alloc _) (h.bl.alloc h.bl.size _) hg⟩
 by_cases e:k<i
 ·have:=h.nm k e
  have e1:(V++[v]).getD k 0=V.getD k 0:=by
   simp only [List.getD]
   rw [List.getElem?_append_left (by rw [h.ln];exact e)]
  rw [e1];exact this
 ·have e2:k=i:=by omega
  subst e2
  have e1:(V++[v]).getD k 0=v:=by
   simp only [List.getD]
   rw [List.getElem?_append_right (by rw [h.ln];exact nl _),h.ln,Nat.sub_self]
   rfl
  rw [e1];exact hv
theorem NbI.call {w wr w':World} {u:Value} {X:Nat→ByteArray} {i:Nat} {V:List Int} (h:NbI w wr u X i V) (hb:Below wr.heap.size wr w'):NbI w w' u X i V:=⟨h.ln,h.nm,zB7 h.rw hb,zA1 h.bl hb⟩
set_option maxRecDepth 100000 in
set_option maxHeartbeats 4000000 in
theorem rnumbers (g o n c:Nat) (X:Nat→ByteArray) (hn:1≤n) (h9:n≤9) (w:World) (ht:StrAt w g o n X) (hX:∀k,k<n→(X k).size≤300000):Calls Tryz.prog 120 #[.slice (some ⟨g,o,none⟩) n c] w (RNumsPost w X n):=by
 obtain ⟨SI0,hi0,hz0,hz1,hz2⟩:=zA8 infoInt
 have SI1:=LH hi0
 have SI2:=LH hz0
 have SI3:=LH hz1
 have SI4:=LH hz2
 have HT:=LH ht
 have HX:=LH hX
 have H9:=LH h9
 have H1:=LH hn
 have hgw:=ht.1
 clear hi0 hz0 hz1 hz2 ht hX h9 hn
 go_enter Tryz.func120,Tryz.ntmps120
 go_wp2_with fail
 go_loopw [4,5] (fun u v wr=>∃(i:Nat) (V:List Int),v= .int .i64 i∧Hid (i≤n)∧Hid (NbI w wr u X i V)) (fun _ v _=>n - (intOf v).toNat)
 case atStart=>exact ⟨0,[],rfl,Nat.zero_le _,rfl,fun k hk=>absurd hk (Nat.not_lt_zero _),World.ownsRow_nil _ _ _ _,bR _ _⟩
 case round=>
  obtain ⟨i,V,rfl,Hi,HM⟩:=hrel
  obtain ⟨A8,cap8,h8⟩:∃A8 cap8,u4= .slice A8 i cap8:=by
   rcases HM.out.rw.2 with ⟨hv,h0⟩|⟨g',cap,cur,hv,_⟩
   ·exact ⟨none,0,by rw [hv,h0]⟩
   ·exact ⟨_,cap,hv⟩
  subst h8
  have h9:=H9.out
  have hin:=Hi.out
  have HN300:Hid (i≤300):=by show _≤_;omega
  by_cases hk:i<n
  case neg=>
   have T0:decide ((i:Int)<(n:Int))=false:=dF (by omega)
   have T0':decide (i<n)=false:=dF hk
   have e:i=n:=by omega
   clear h9 hin hk HN300
   go_wp2_with fail
   go_ret2
   subst e
   refine ⟨.inl ?_,HM.out.bl⟩
   have hown:=HM.out.rw
   rw [←HM.out.ln] at hown
   have hVn:V≠[]:=fun e0=>by have:=HM.out.ln;have:=H1.out;rw [e0] at*;simp at*;omega
   obtain ⟨g2,c2,hu,hg2,hc2⟩:=own_ints hown hVn
   rw [HM.out.ln] at hu hc2
   have hcap:i≤c2:=by
        rcases HM.out.rw.2 with ⟨hv,h0⟩|⟨g',cap,cur,hv,_,_,hnc,_⟩
        ·have:=H1.out;omega
        ·rw [hu] at hv
         cases hv;exact hnc
   exact ⟨V,g2,c2,HM.out.ln,HM.out.nm,by rw [hu];rfl,hg2,hcap,fun k hk=>by have h5:=hc2 k hk;rw [Nat.zero_add] at h5;exact h5⟩
  have T0:decide ((i:Int)<(n:Int))=true:=dT (by omega)
  have T0':decide (i<n)=true:=dT hk
  obtain ⟨i',hi'⟩:∃z,z=i+1:=⟨_,rfl⟩
  have x0:IntKind.i64.wrap ((i:Int)+1)=(i':Int):=by rw [IntKind.wrap_i64];omega
  have r0:(0:Int)≤(i:Int):=by omega
  have r1:(i:Int)<(n:Int):=by omega
  have hc0:=(zB6 HT.out HM.out.bl).2 i hk
  have hgr:=(zB6 HT.out HM.out.bl).1
  have S:=LH (fun w'=>rint (X i) (HX.out i hk) w')
  have HIK:=LH hk
  have HI':Hid (i'≤n):=by show _≤_;omega
  have HIE:Hid (i+1=i'):=hi'.symm
  have HMS:Hid (n - (intOf (Value.int .i64 (i':Int))).toNat<n - (intOf (Value.int .i64 (i:Int))).toNat):=by show _<_;simp [intOf];omega
  obtain ⟨xi,hxi⟩:∃xi,X i=xi:=⟨_,rfl⟩
  rw [hxi] at hc0 S
  have HXI:=LH hxi
  clear hxi h9 hin hk hi'
  go_upto_region 6 with (first
   |(go_at_call 122
     refine (S.out _).mono ?_
     rintro e w5 ⟨v,b,hr,rfl,rfl⟩
     have HR:=LH hr
     clear hr))
  cases b with
  |false=>
   have HNO:Hid (∃k,k<n∧∀v,¬NumIs (X k).data.toList v):=by
        refine ⟨i,HIK.out,fun v=>?_⟩
        rw [HXI.out]
        cases HR.out with
        |no h=>exact h v
   go_wp2_with fail
   go_ret2
   exact ⟨.inr ⟨HNO.out,rfl⟩,HM.out.bl⟩
  |true=>
   have HNI:Hid (NumIs (X i).data.toList v):=by
        show NumIs _ _
        rw [HXI.out]
        cases HR.out with
        |ok h=>exact h
   go_wp2_with (first
        |(at_builtin;refine wpList_append_own_at _ ?q1_1 (.tmp 24) (.tmp 26) 32 ?q1_2 (w.heap.size) 3 SI0 (.int .i64 0) 1 8 Tryz.underlying32 SI1.out SI2.out SI3.out SI4.out ?q1_3 ?q1_4 (.slice A8 i cap8) i (ic V) ?q1_5 (HM.out.rw.alloc _) ⟨wr.heap.size,0,none⟩ 1 1 [.int .i64 v] ?q1_7 (rfl) (World.news_of_block (cs:=#[.int .i64 v]) (t:=3) (fr:=(0,0)) (heap_alloc_new _ _)) (by simp [Value.oneCell']) (h63_s HN300.out) (hby_8 HN300.out) (nT HM.out.bl.size (by simp)) ?q1_14
          case q1_1=>exact rfl
          case q1_2=>exact rfl
          case q1_3=>exact rfl
          case q1_4=>decide
          case q1_5=>exact rfl
          case q1_7=>exact rfl
          intro u2 w7 hown2 hgrow2 hnil2 hat2
          have HM7:=LH (HM.out.app HNI.out hown2 hgrow2)
          clear hown2 hgrow2 hnil2 hat2))
   go_roundw
   case rel=>exact ⟨i',V++[v],rfl,HI'.out,by have h:=HM7.out;rw [HIE.out] at h;exact h⟩
   case measure=>exact HMS.out
theorem rnum4_ok (g o c:Nat) (a b x d:ByteArray) (ha:a.size≤20000) (hb:b.size≤20000) (hx:x.size≤20000) (hd:d.size≤20000) (v0 v1 v2 v3:Int) (n0:NumIs a.data.toList v0) (n1:NumIs b.data.toList v1) (n2:NumIs x.data.toList v2) (n3:NumIs d.data.toList v3) (w:World) (ht:StrAt w g o 4 (fun k=>([a,b,x,d]:List ByteArray).getD k ByteArray.empty)):
 Calls Tryz.prog 120 #[.slice (some ⟨g,o,none⟩) 4 c] w fun e w'=>∃g2 c2,e= .returned (.tuple #[.slice (some ⟨g2,0,none⟩) 4 c2,.bool true])∧(g2<w'.heap.size∧w'.cell? ⟨g2,0,none⟩=some (.int .i64 v0)∧w'.cell? ⟨g2,1,none⟩=some (.int .i64 v1)∧w'.cell? ⟨g2,2,none⟩=some (.int .i64 v2)∧w'.cell? ⟨g2,3,none⟩=some (.int .i64 v3))∧4≤c2∧Below w.heap.size w w':=by
 have h4:∀k,k<4→k=0∨k=1∨k=2∨k=3:=fun k h=>by omega
 refine (rnumbers g o 4 c _ (by omega) (by omega) w ht (fun k hk=>by
  rcases h4 k hk with rfl |rfl |rfl |rfl
  ·exact nT ha (by omega)
  ·exact nT hb (by omega)
  ·exact nT hx (by omega)
  ·exact nT hd (by omega))).mono ?_
 rintro e w' ⟨⟨V,g2,c2,hV,hn,rfl,hg2,hc2,hcell⟩|⟨⟨k,hk,hno⟩,_⟩,hb'⟩
 ·have e0:=(hn 0 (by omega)).uniq n0
  have e1:=(hn 1 (by omega)).uniq n1
  have e2:=(hn 2 (by omega)).uniq n2
  have e3:=(hn 3 (by omega)).uniq n3
  exact ⟨g2,c2,rfl,⟨hg2,by rw [←e0];exact hcell 0 (by omega),by rw [←e1];exact hcell 1 (by omega),by rw [←e2];exact hcell 2 (by omega),by rw [←e3];exact hcell 3 (by omega)⟩,hc2,hb'⟩
 ·rcases h4 k hk with rfl |rfl |rfl |rfl
  ·exact absurd n0 (hno v0)
  ·exact absurd n1 (hno v1)
  ·exact absurd n2 (hno v2)
  ·exact absurd n3 (hno v3)
theorem rnum4_no (g o c:Nat) (a b x d:ByteArray) (ha:a.size≤20000) (hb:b.size≤20000) (hx:x.size≤20000) (hd:d.size≤20000) (hno:¬∃v0 v1 v2 v3,NumIs a.data.toList v0∧NumIs b.data.toList v1∧NumIs x.data.toList v2∧NumIs d.data.toList v3) (w:World) (ht:StrAt w g o 4 (fun k=>([a,b,x,d]:List ByteArray).getD k ByteArray.empty)):
 Calls Tryz.prog 120 #[.slice (some ⟨g,o,none⟩) 4 c] w fun e w'=>e= .returned (.tuple #[.slice none 0 0,.bool false])∧Below w.heap.size w w':=by
 have h4:∀k,k<4→k=0∨k=1∨k=2∨k=3:=fun k h=>by omega
 refine (rnumbers g o 4 c _ (by omega) (by omega) w ht (fun k hk=>by
  rcases h4 k hk with rfl |rfl |rfl |rfl
  ·exact nT ha (by omega)
  ·exact nT hb (by omega)
  ·exact nT hx (by omega)
  ·exact nT hd (by omega))).mono ?_
 rintro e w' ⟨⟨V,g2,c2,hV,hn,rfl,hg2,hc2,hcell⟩|⟨_,rfl⟩,hb'⟩
 ·exact absurd ⟨_,_,_,_,hn 0 (by omega),hn 1 (by omega),hn 2 (by omega),hn 3 (by omega)⟩ hno
 ·exact ⟨rfl,hb'⟩
theorem rpar_ok (s:ByteArray) (hs:s.size≤100000) (hp:∃n X Y,TabOK n X Y∧s.data.toList=txL X Y n) (w:World):
 Calls Tryz.prog 123 #[.string s] w fun e w'=>∃(T:List (Int×Int)) (g cp:Nat),tabT T∧(∀t,Tl t s→t=twd T)∧e= .returned (.tuple #[.slice (some ⟨g,0,none⟩) T.length cp,.bool true])∧w.heap.size≤g∧TabIn w' (some ⟨g,0,none⟩) T.length (kX T) (kY T)∧Below w.heap.size w w':=by
 refine (rparse s hs w).mono ?_
 rintro e w' (⟨n,X,Y,g,cp,hok,hx,rfl,hg,ht,hb⟩|⟨hno,_⟩)
 ·refine ⟨edl n X Y,g,cp,tabT_of hok,fun t h=>tl_tab h hok hx,by rw [zG9],hg,tab_edl ⟨by have:=hok.2.1;omega,.inr ⟨g,0,rfl,ht⟩⟩,hb⟩
 ·obtain ⟨n,X,Y,hok,hx⟩:=hp
  exact absurd hx (hno n X Y hok)
theorem rpar_no (s:ByteArray) (hs:s.size≤100000) (hp:¬∃n X Y,TabOK n X Y∧s.data.toList=txL X Y n) (w:World):
 Calls Tryz.prog 123 #[.string s] w fun e w'=>e= .returned (.tuple #[.slice none 0 0,.bool false])∧Below w.heap.size w w':=by
 refine (rparse s hs w).mono ?_
 rintro e w' (⟨n,X,Y,g,cp,hok,hx,_⟩|⟨_,rfl,hb⟩)
 ·exact absurd ⟨n,X,Y,hok,hx⟩ hp
 ·exact ⟨rfl,hb⟩
theorem par_none {s:ByteArray} (hp:¬∃n X Y,TabOK n X Y∧s.data.toList=txL X Y n) {t:List (List UInt8)} (h:Tl t s) (T:List (Int×Int)) (hT:tabT T):t≠twd T:=tl_no h (fun n X Y hok hx=>hp ⟨n,X,Y,hok,hx⟩) hT
theorem jn_grow (X:Nat→ByteArray) (i:Nat) (h:0<i):(⟨(jn (wl X i)).toArray⟩:ByteArray)++(⟨#[32]⟩:ByteArray)++X i=⟨(jn (wl X (i+1))).toArray⟩:=by
 rw [wl_succ,jn_snoc (by intro e;have:=congrArg List.length e;simp [wl] at this;omega)]
 apply ByteArray.ext
 apply Array.ext'
 rw [ByteArray.data_append,ByteArray.data_append]
 simp
theorem jn_first (X:Nat→ByteArray):(⟨(jn (wl X 0)).toArray⟩:ByteArray)++X 0=⟨(jn (wl X (0+1))).toArray⟩:=by
 rw [wl_succ]
 have:wl X 0=[]:=rfl
 rw [this,List.nil_append,zI0]
 apply ByteArray.ext
 apply Array.ext'
 rw [ByteArray.data_append]
 simp [jn,Lib.join]
set_option maxRecDepth 100000 in
set_option maxHeartbeats 4000000 in
theorem rwords (g o n c:Nat) (X:Nat→ByteArray) (h8:n≤9) (w:World) (ht:StrAt w g o n X) (hX:∀k,k<n→(X k).size≤300000):Calls Tryz.prog 121 #[.slice (some ⟨g,o,none⟩) n c] w fun e w'=>e= .returned (.string ⟨(jn (wl X n)).toArray⟩)∧w=w':=by
 have HT:=LH ht
 have HX:=LH hX
 have H9:=LH h8
 have HLN:Hid (∀i,i≤n→(⟨(jn (wl X i)).toArray⟩:ByteArray).size≤2800000):=fun i hi=>by
  have:=jn_len X 300000 i (fun k hk=>hX k (by omega))
  have hm:=Nat.mul_le_mul_right 300001 (show i≤9 by omega)
  show (jn (wl X i)).length≤_
  omega
 have hgw:=ht.1
 clear ht hX h8
 go_enter Tryz.func121,Tryz.ntmps121
 go_wp2_with fail
 go_loop [3,4] (fun u v=>∃(i:Nat) (a:ByteArray),u= .string a∧v= .int .i64 i∧Hid (i≤n)∧Hid (a=⟨(jn (wl X i)).toArray⟩)) (fun _ v=>n - (intOf v).toNat)
 case atStart=>exact ⟨0,⟨#[]⟩,rfl,rfl,Nat.zero_le _,rfl⟩
 case round=>
  obtain ⟨i,a,rfl,rfl,Hi,HA⟩:=hrel
  have h9:=H9.out
  have hin:=Hi.out
  by_cases hk:i<n
  case neg=>
   have T0:decide ((i:Int)<(n:Int))=false:=dF (by omega)
   have T0':decide (i<n)=false:=dF hk
   have e:i=n:=by omega
   clear h9 hin hk
   go_wp2_with fail
   go_ret
   exact ⟨by rw [←e,←HA.out];rfl,rfl⟩
  have T0:decide ((i:Int)<(n:Int))=true:=dT (by omega)
  have T0':decide (i<n)=true:=dT hk
  obtain ⟨i',hi'⟩:∃z,z=i+1:=⟨_,rfl⟩
  have x0:IntKind.i64.wrap ((i:Int)+1)=(i':Int):=by rw [IntKind.wrap_i64];omega
  have r0:(0:Int)≤(i:Int):=by omega
  have r1:(i:Int)<(n:Int):=by omega
  have hc0:=HT.out.2 i hk
  have has:=HLN.out i (by omega)
  rw [←HA.out] at has
  have hxs:=HX.out i hk
  have HI':Hid (i'≤n):=by show _≤_;omega
  have HMS:Hid (n - (intOf (Value.int .i64 (i':Int))).toNat<n - (intOf (Value.int .i64 (i:Int))).toNat):=by show _<_;simp [intOf];omega
  obtain ⟨xi,hxi⟩:∃xi,X i=xi:=⟨_,rfl⟩
  rw [hxi] at hc0 hxs
  by_cases h0:0<i
  ·have T1:decide ((0:Int)<(i:Int))=true:=dT (by omega)
   have T1':decide (0<i)=true:=dT h0
   obtain ⟨b,hb⟩:∃b,a++(⟨#[32]⟩:ByteArray)=b:=⟨_,rfl⟩
   obtain ⟨z,hz⟩:∃z,b++xi=z:=⟨_,rfl⟩
   have hbs:b.size=a.size+1:=by rw [←hb,ByteArray.size_append];rfl
   have v1:((a.size:Nat):Int)≤8388608:=by omega
   have v2:((b.size:Nat):Int)≤8388608:=by omega
   have v3:¬9223372036854775807<a.size+1:=by omega
   have v4:¬9223372036854775807<b.size+xi.size:=by omega
   have HZ:Hid (z=⟨(jn (wl X i')).toArray⟩):=by
        show _=_
        rw [←hz,←hb,←hxi,HA.out,hi']
        exact jn_grow X i h0
   clear h9 hin hk hi' has hxs hbs h0 hxi
   go_wp2_with fail
   go_round
   case rel=>exact ⟨i',z,rfl,rfl,HI'.out,HZ.out⟩
   case measure=>exact HMS.out
  ·have T1:decide ((0:Int)<(i:Int))=false:=dF (by omega)
   have T1':decide (0<i)=false:=dF h0
   obtain ⟨z,hz⟩:∃z,a++xi=z:=⟨_,rfl⟩
   have v1:((a.size:Nat):Int)≤8388608:=by omega
   have v4:¬9223372036854775807<a.size+xi.size:=by omega
   have HZ:Hid (z=⟨(jn (wl X i')).toArray⟩):=by
        show _=_
        have e0:i=0:=by omega
        rw [←hz,←hxi,HA.out,hi',e0]
        exact jn_first X
   clear h9 hin hk hi' has hxs h0 hxi
   go_wp2_with fail
   go_round
   case rel=>exact ⟨i',z,rfl,rfl,HI'.out,HZ.out⟩
   case measure=>exact HMS.out
def zeroN:Array Value:=#[.string ⟨#[]⟩,.int .i64 0,.int .i64 0,.int .i64 0,.int .i64 0,.int .i64 0,.slice none 0 0,.bool false,.int .i64 0]
def RNdPost (w:World) (l:List UInt8) (e:Ending) (w':World):Prop:=
 ∃(x:Ndr) (A:Option Addr) (c:Nat) (f:Bool),e= .returned (.tuple #[.agg (ncs x A c).toArray,.bool f])∧TabIn w' A x.T.length (kX x.T) (kY x.T)∧(x.T.length≠0→∀b off,A=some ⟨b,off,none⟩→w.heap.size≤b)∧(f=true→IsNd l x)∧(f=false→∀y,¬IsNd l y)∧Below w.heap.size w w'
theorem blk_st9 {wr:World} {R:Nat} {x0 x1 x2 x3 x4 x5 x6 x7 x8:Value} (h:Blk wr R 55 #[x0,x1,x2,x3,x4,x5,x6,x7,x8]) (a b c d e f i j k:Value):Blk (st9 wr R a b c d e f i j k) R 55 #[a,b,c,d,e,f,i,j,k]:=by
 unfold st9
 have hbk:=((((((((h.set_ 0 a).set_ 1 b).set_ 2 c).set_ 3 d).set_ 4 e).set_ 5 f).set_ 6 i).set_ 7 j).set_ 8 k
 simp only [sA,sB,sC] at hbk
 exact hbk
theorem below_st9 {B R:Nat} {w wr:World} (h:Below B w wr) (hR:B≤R) (a b c d e f i j k:Value):Below B w (st9 wr R a b c d e f i j k):=by
 unfold st9
 exact ((((((((h.setCell (p:=⟨R,0,none⟩) hR a).setCell (p:=⟨R,1,none⟩) hR b).setCell (p:=⟨R,2,none⟩) hR c).setCell (p:=⟨R,3,none⟩) hR d).setCell (p:=⟨R,4,none⟩) hR e).setCell (p:=⟨R,5,none⟩) hR f).setCell (p:=⟨R,6,none⟩) hR i).setCell (p:=⟨R,7,none⟩) hR j).setCell (p:=⟨R,8,none⟩) hR k
theorem zH2 {wr:World} {R X:Nat} {t:TypeId} {cs:Array Value} (h:Blk wr X t cs) (hX:X≠R) (a b c d e f i j k:Value):Blk (st9 wr R a b c d e f i j k) X t cs:=by
 unfold st9
 exact ((((((((h.far (p:=⟨R,0,none⟩) hX a).far (p:=⟨R,1,none⟩) hX b).far (p:=⟨R,2,none⟩) hX c).far (p:=⟨R,3,none⟩) hX d).far (p:=⟨R,4,none⟩) hX e).far (p:=⟨R,5,none⟩) hX f).far (p:=⟨R,6,none⟩) hX i).far (p:=⟨R,7,none⟩) hX j).far (p:=⟨R,8,none⟩) hX k
def strL (w:World) (g:Nat) (R:List ByteArray):Prop:=StrAt w g 0 R.length (fun k=>R.getD k ByteArray.empty)
theorem zB0 {w:World} {g X:Nat} {R:List ByteArray} (h:strL w g R) (hg:g≠X) (i:Nat) (u:Value):strL (w.setCell ⟨X,i,none⟩ u) g R:=
 ⟨by have:(w.setCell ⟨X,i,none⟩ u).heap.size=w.heap.size:=by simp [World.setCell]
     rw [this];exact h.1,fun k hk=>(World.cell?_of_block (Below.heap_setCell w ⟨X,i,none⟩ u g (by show g≠X;exact hg))).trans (h.2 k hk)⟩
theorem zJ3 {wr:World} {R g:Nat} {L:List ByteArray} (h:strL wr g L) (hg:g≠R) (a b c d e f i j k:Value):strL (st9 wr R a b c d e f i j k) g L:=by
 unfold st9
 exact zB0 (zB0 (zB0 (zB0 (zB0 (zB0 (zB0 (zB0 (zB0 h hg 0 a) hg 1 b) hg 2 c) hg 3 d) hg 4 e) hg 5 f) hg 6 i) hg 7 j) hg 8 k
theorem zB8 {w:World} {X:Nat} {t:TypeId} {cs:Array Value} (h:Blk w X t cs):Blk w.drew X t cs:=h
theorem zE0 {w:World} {g:Nat} {R:List ByteArray} (h:strL w g R):strL w.drew g R:=h
theorem zI5 {w:World} {A:Option Addr} {n:Nat} {F G:Nat→Int} (h:TabIn w A n F G):TabIn w.drew A n F G:=h
theorem fin9 {C E:World→Prop} {wr w:World} {x0 x1 x2 x3 x4 x5 x6 x7 x8:Value} (h:Blk wr w.heap.size 55 #[x0,x1,x2,x3,x4,x5,x6,x7,x8]) (hb:Below w.heap.size w wr) {a b c d e f i j k:Value} (hE:E (st9 wr w.heap.size a b c d e f i j k)) (K:∀wz,Blk wz w.heap.size 55 #[a,b,c,d,e,f,i,j,k]→Below w.heap.size w wz→E wz→C wz):C (st9 wr w.heap.size a b c d e f i j k):=
 K _ (blk_st9 h a b c d e f i j k) (below_st9 hb (nl _) a b c d e f i j k) hE
theorem fin9d {C E:World→Prop} {wr w:World} {x0 x1 x2 x3 x4 x5 x6 x7 x8:Value} (h:Blk wr w.heap.size 55 #[x0,x1,x2,x3,x4,x5,x6,x7,x8]) (hb:Below w.heap.size w wr) {a b c d e f i j k:Value} (hE:E (st9 wr w.heap.size a b c d e f i j k).drew) (K:∀wz,Blk wz w.heap.size 55 #[a,b,c,d,e,f,i,j,k]→Below w.heap.size w wz→E wz→C wz):C (st9 wr w.heap.size a b c d e f i j k).drew:=
 K _ (zB8 (blk_st9 h a b c d e f i j k)) (below_st9 hb (nl _) a b c d e f i j k).drew hE
theorem zA6 {w:World} {g:Nat} {k0 nm a b c d:ByteArray} (h:strL w g [k0,nm,a,b,c,d]):w.cell? ⟨g,0,none⟩=some (.string k0)∧w.cell? ⟨g,1,none⟩=some (.string nm)∧w.cell? ⟨g,2,none⟩=some (.string a)∧w.cell? ⟨g,3,none⟩=some (.string b)∧w.cell? ⟨g,4,none⟩=some (.string c)∧w.cell? ⟨g,5,none⟩=some (.string d):=by
 have key:∀k,k<6→w.cell? ⟨g,k,none⟩=some (.string (([k0,nm,a,b,c,d]:List ByteArray).getD k ByteArray.empty)):=fun k hk=>by
  have:=h.2 k hk
  rwa [Nat.zero_add] at this
 exact ⟨key 0 (by omega),key 1 (by omega),key 2 (by omega),key 3 (by omega),key 4 (by omega),key 5 (by omega)⟩
theorem str_tail {w:World} {g:Nat} {k0 nm a b c d:ByteArray} (h:strL w g [k0,nm,a,b,c,d]):StrAt w g 2 4 (fun k=>([a,b,c,d]:List ByteArray).getD k ByteArray.empty):=by
 refine ⟨h.1,fun k hk=>?_⟩
 have:=h.2 (k+2) (by show k+2<6;omega)
 rw [Nat.zero_add] at this
 rw [Nat.add_comm 2 k]
 exact this
theorem wds_one {x:ByteArray} (h:(32:UInt8)∉x.data.toList):wds x.data.toList=[x.data.toList]:=by
 have:=wds_lm (R:=[x]) (by simp) (by simpa using h)
 rw [zI0] at this
 exact this
theorem wds_it (v:Int):wds (Lib.itoa v)=[Lib.itoa v]:=wds_one (x:=⟨(Lib.itoa v).toArray⟩) (by
 show (32:UInt8)∉Lib.itoa v
 exact itoa_no (by decide) (.inl (by decide)))
theorem wds_nosp {l x:List UInt8} (h:x∈wds l):(32:UInt8)∉x:=by
 have key:∀l:List UInt8,∀x,x∈wds l→(32:UInt8)∉x:=by
  intro l
  induction l with
  |nil=>intro x hx;simp [wds] at hx;simp [hx]
  |cons c r ih=>
   intro x hx
   unfold wds at hx
   split at hx
   ·rcases List.mem_cons.1 hx with rfl |h
    ·simp
    ·exact ih x h
   ·rename_i hc
    cases e:wds r with
    |nil=>exact absurd e (zH0 r)
    |cons a t=>
     rw [e] at hx ih
     rcases List.mem_cons.1 hx with rfl |h'
     ·intro h32
      rcases List.mem_cons.1 h32 with h1 |h1
      ·exact hc h1.symm
      ·exact ih a (by simp) h1
     ·exact ih x (by simp [h'])
 exact key l x h
theorem lk_kd {y:Lkr} (h:formL y):(lkK y=kPipe→y.kd=1)∧(lkK y=zL9→y.kd=2)∧(lkK y=kGate→y.kd=3)∧(lkK y=kPump→y.kd=4):=by
 unfold lkK
 rcases h.kd with ⟨h,_⟩|⟨h,_⟩|⟨h,_⟩|⟨h,_⟩<;> rw [h]<;> decide
theorem Six.lk_num {l:List UInt8} {k0 nm a b c d:ByteArray} {t:List (List UInt8)} (h:Six l k0 nm a b c d t) {y:Lkr} (hy:IsLk l y):∃v0 v1,NumIs c.data.toList v0∧NumIs d.data.toList v1:=by
 obtain ⟨_,_,_,_,e⟩:=h.ends hy
 rcases hy.1.kd with ⟨k,g1,_⟩|⟨k,_,_,_,g1,_⟩|⟨k,_,_,_,g1,_⟩|⟨k,_,g1,_⟩<;> rw [k] at e
 ·rw [if_pos rfl] at e
  simp only [List.cons.injEq] at e
  exact ⟨y.ln,y.up,by rw [e.1];exact zC8 g1,by rw [e.2.1];exact zC8 hy.1.up⟩
 ·rw [if_neg (by decide),if_pos rfl] at e
  simp only [List.cons.injEq] at e
  exact ⟨y.up,y.wd,by rw [e.1];exact zC8 hy.1.up,by rw [e.2.1];exact zC8 g1⟩
 ·rw [if_neg (by decide),if_neg (by decide),if_pos rfl] at e
  simp only [List.cons.injEq] at e
  exact ⟨y.up,y.wd,by rw [e.1];exact zC8 hy.1.up,by rw [e.2.1];exact zC8 g1⟩
 ·rw [if_neg (by decide),if_neg (by decide),if_neg (by decide)] at e
  simp only [List.cons.injEq] at e
  exact ⟨y.up,y.dn,by rw [e.1];exact zC8 hy.1.up,by rw [e.2.1];exact zC8 g1⟩
theorem Six.lk_names {l:List UInt8} {k0 nm a b c d:ByteArray} {t:List (List UInt8)} (h:Six l k0 nm a b c d t) {y:Lkr} (hy:IsLk l y):nm.data.toList≠[]∧a.data.toList≠[]∧b.data.toList≠[]:=by
 obtain ⟨_,e1,e2,e3,_⟩:=h.ends hy
 rw [e1,e2,e3]
 exact ⟨hy.1.nm.1,hy.1.fr.1,hy.1.tn.1⟩
theorem Six.is_lk {l:List UInt8} {k0 nm a b c d:ByteArray} {t:List (List UInt8)} (h:Six l k0 nm a b c d t) (h10:(10:UInt8)∉l) (hnm:nm.data.toList≠[]∧a.data.toList≠[]∧b.data.toList≠[]) {kd ln up dn wd ht:Int} {sc:ByteArray} {T:List (Int×Int)} (hk:k0.data.toList=lkK ⟨nm,a,b,kd,ln,up,dn,sc,wd,ht,T⟩) (hup:zE3 up)
 (hkd:(kd=1∧zE3 ln∧zE3 dn∧wdOK sc∧wd=0∧ht=0∧T=[])∨(kd=2∧ln=0∧dn=0∧sc=⟨#[]⟩∧zE3 wd∧ht=0∧T=[])∨(kd=3∧ln=0∧dn=0∧sc=⟨#[]⟩∧zE3 wd∧zE3 ht∧T=[])∨(kd=4∧ln=0∧zE3 dn∧sc=⟨#[]⟩∧wd=0∧ht=0∧tabT T))
 (he:c.data.toList::d.data.toList::t=(if kd=1 then [Lib.itoa ln,Lib.itoa up,Lib.itoa dn,sc.data.toList] else if kd=2 then [Lib.itoa up,Lib.itoa wd] else if kd=3 then [Lib.itoa up,Lib.itoa wd,Lib.itoa ht] else Lib.itoa up::Lib.itoa dn::twd T)):IsLk l ⟨nm,a,b,kd,ln,up,dn,sc,wd,ht,T⟩:=by
 refine ⟨⟨h.wd h10 (by rw [h.eq];simp) hnm.1,h.wd h10 (by rw [h.eq];simp) hnm.2.1,h.wd h10 (by rw [h.eq];simp) hnm.2.2,hup,hkd⟩,?_⟩
 rw [h.eq,hk,he]
 rfl
theorem Six.weir_yes {l:List UInt8} {k0 nm a b c d:ByteArray} {t:List (List UInt8)} (h:Six l k0 nm a b c d t) (h10:(10:UInt8)∉l) (hnm:nm.data.toList≠[]∧a.data.toList≠[]∧b.data.toList≠[]) {v0 v1:Int} (hn:NumIs c.data.toList v0∧NumIs d.data.toList v1) (hk:k0.data.toList=zL9) (hj:jn [k0,nm,a,b,c,d]=l):IsLk l ⟨nm,a,b,2,0,v0,0,⟨#[]⟩,v1,0,[]⟩:=by
 refine h.is_lk h10 hnm hk hn.1.ok (.inr (.inl ⟨rfl,rfl,rfl,rfl,hn.2.ok,rfl,rfl⟩)) ?_
 rw [if_neg (by decide),if_pos rfl,zB3 hn.1,zB3 hn.2]
 cases t with
 |nil=>rfl
 |cons x t=>exact absurd hj (jn_more (t:=x::t) (by simp) (by simp) h.eq)
theorem Six.weir_no {l:List UInt8} {k0 nm a b c d:ByteArray} {t:List (List UInt8)} (h:Six l k0 nm a b c d t) (hk:k0.data.toList=zL9) (hj:jn [k0,nm,a,b,c,d]≠l) (y:Lkr):¬IsLk l y:=fun hy=>by
 obtain ⟨e0,_,_,_,e⟩:=h.ends hy
 have hkd:=(lk_kd hy.1).2.1 (by rw [←e0,hk])
 rw [hkd,if_neg (by decide),if_pos rfl] at e
 simp only [List.cons.injEq] at e
 have ht:=e.2.2
 subst ht
 exact hj (jn_back (by simp) (by rw [h.eq];rfl))
theorem tl_num {t:List (List UInt8)} {r:ByteArray} (h:Tl t r) {v:Int} (hv:NumIs r.data.toList v):t=[Lib.itoa v]:=by
 rcases h with ⟨_,h⟩|h
 ·rw [h] at hv
  exact absurd rfl hv.ne
 ·rw [h,zB3 hv,wds_it]
theorem tl_it {t:List (List UInt8)} {r:ByteArray} (h:Tl t r) {v:Int} (hv:zE3 v) (ht:t=[Lib.itoa v]):NumIs r.data.toList v:=by
 rcases h with ⟨h,_⟩|h
 ·rw [h] at ht;simp at ht
 ·rw [ht,←wds_it v] at h
  rw [←wds_inj h]
  exact zC8 hv
theorem Six.gate_yes {l:List UInt8} {k0 nm a b c d r:ByteArray} {t:List (List UInt8)} (h:Six l k0 nm a b c d t) (h10:(10:UInt8)∉l) (hnm:nm.data.toList≠[]∧a.data.toList≠[]∧b.data.toList≠[]) {v0 v1 v2:Int} (hn:NumIs c.data.toList v0∧NumIs d.data.toList v1) (hk:k0.data.toList=kGate) (ht:Tl t r) (hr:NumIs r.data.toList v2):IsLk l ⟨nm,a,b,3,0,v0,0,⟨#[]⟩,v1,v2,[]⟩:=by
 refine h.is_lk h10 hnm hk hn.1.ok (.inr (.inr (.inl ⟨rfl,rfl,rfl,rfl,hn.2.ok,hr.ok,rfl⟩))) ?_
 rw [if_neg (by decide),if_neg (by decide),if_pos rfl,zB3 hn.1,zB3 hn.2,tl_num ht hr]
theorem Six.gate_no {l:List UInt8} {k0 nm a b c d r:ByteArray} {t:List (List UInt8)} (h:Six l k0 nm a b c d t) (hk:k0.data.toList=kGate) (ht:Tl t r) (hr:∀v,¬NumIs r.data.toList v) (y:Lkr):¬IsLk l y:=fun hy=>by
 obtain ⟨e0,_,_,_,e⟩:=h.ends hy
 have hkd:=(lk_kd hy.1).2.2.1 (by rw [←e0,hk])
 rw [hkd,if_neg (by decide),if_neg (by decide),if_pos rfl] at e
 simp only [List.cons.injEq] at e
 rcases hy.1.kd with ⟨g,_⟩|⟨g,_⟩|⟨_,_,_,_,_,g,_⟩|⟨g,_⟩
 ·rw [hkd] at g;exact absurd g (by decide)
 ·rw [hkd] at g;exact absurd g (by decide)
 ·exact hr _ (tl_it ht g e.2.2)
 ·rw [hkd] at g;exact absurd g (by decide)
theorem Six.pump_yes {l:List UInt8} {k0 nm a b c d:ByteArray} {t:List (List UInt8)} (h:Six l k0 nm a b c d t) (h10:(10:UInt8)∉l) (hnm:nm.data.toList≠[]∧a.data.toList≠[]∧b.data.toList≠[]) {v0 v1:Int} (hn:NumIs c.data.toList v0∧NumIs d.data.toList v1) (hk:k0.data.toList=kPump) {T:List (Int×Int)} (hT:tabT T) (ht:t=twd T):IsLk l ⟨nm,a,b,4,0,v0,v1,⟨#[]⟩,0,0,T⟩:=by
 refine h.is_lk h10 hnm hk hn.1.ok (.inr (.inr (.inr ⟨rfl,rfl,hn.2.ok,rfl,rfl,rfl,hT⟩))) ?_
 rw [if_neg (by decide),if_neg (by decide),if_neg (by decide),zB3 hn.1,zB3 hn.2,ht]
theorem Six.pump_no {l:List UInt8} {k0 nm a b c d:ByteArray} {t:List (List UInt8)} (h:Six l k0 nm a b c d t) (hk:k0.data.toList=kPump) (hno:∀T,tabT T→t≠twd T) (y:Lkr):¬IsLk l y:=fun hy=>by
 obtain ⟨e0,_,_,_,e⟩:=h.ends hy
 have hkd:=(lk_kd hy.1).2.2.2 (by rw [←e0,hk])
 rw [hkd,if_neg (by decide),if_neg (by decide),if_neg (by decide)] at e
 simp only [List.cons.injEq] at e
 rcases hy.1.kd with ⟨g,_⟩|⟨g,_⟩|⟨g,_⟩|⟨_,_,_,_,_,_,g⟩
 ·rw [hkd] at g;exact absurd g (by decide)
 ·rw [hkd] at g;exact absurd g (by decide)
 ·rw [hkd] at g;exact absurd g (by decide)
 ·exact hno _ g e.2.2
theorem one_word {r:ByteArray} {R:List ByteArray} {r3:ByteArray} (h:CutR r.data.toList 2 R r3):R.length=1↔(32:UInt8)∉r.data.toList:=by
 constructor
 ·intro h1
  have hw:wds r.data.toList=lm R:=by
   cases h with
   |all e _ _=>exact e
   |part _ _ e=>omega
  obtain ⟨x,rfl⟩:=one h1
  have hx:(32:UInt8)∉x.data.toList:=wds_nosp (l:=r.data.toList) (by rw [hw];simp [lm])
  have e:=jn_back (R:=[x]) (by simp) hw
  rw [←e,zI0]
  exact hx
 ·intro hx
  have e:=wds_one hx
  cases h with
  |all e2 _ _=>
   rw [e] at e2
   have:=congrArg List.length e2
   rw [lm_len] at this
   simpa using this.symm
  |part _ e2 e3=>
   rw [e] at e2
   have:=congrArg List.length e2
   rw [List.length_append,lm_len,e3] at this
   simp at this
   omega
theorem Six.pipe_yes {l:List UInt8} {k0 nm a b c d m0 r2:ByteArray} {t t2:List (List UInt8)} (h:Six l k0 nm a b c d t) (h10:(10:UInt8)∉l) (hnm:nm.data.toList≠[]∧a.data.toList≠[]∧b.data.toList≠[]) {v0 v1 v2:Int} (hn:NumIs c.data.toList v0∧NumIs d.data.toList v1) (hk:k0.data.toList=kPipe) (ht2:Tl t2 r2) (ht:(t=[]∧m0.data.toList=[])∨t=m0.data.toList::t2) (hv:NumIs m0.data.toList v2) (hr:r2.data.toList≠[]) (h32:(32:UInt8)∉r2.data.toList):IsLk l ⟨nm,a,b,1,v0,v1,v2,r2,0,0,[]⟩:=by
 have e1:=tl_first ht hv.ne
 have e2:t2=[r2.data.toList]:=by
  rcases ht2 with ⟨_,g⟩|g
  ·rw [g] at hr;exact absurd rfl hr
  ·rw [g,wds_one h32]
 refine h.is_lk h10 hnm hk hn.2.ok (.inl ⟨rfl,hn.1.ok,hv.ok,h.wd h10 (by rw [h.eq,e1,e2];simp) hr,rfl,rfl,rfl⟩) ?_
 rw [if_pos rfl,e1,e2,zB3 hn.1,zB3 hn.2,zB3 hv]
theorem Six.pipe {l:List UInt8} {k0 nm a b c d m0 r2:ByteArray} {t t2:List (List UInt8)} (h:Six l k0 nm a b c d t) (hk:k0.data.toList=kPipe) (ht2:Tl t2 r2) (ht:(t=[]∧m0.data.toList=[])∨t=m0.data.toList::t2) {y:Lkr} (hy:IsLk l y):NumIs m0.data.toList y.dn∧r2.data.toList≠[]∧(32:UInt8)∉r2.data.toList:=by
 obtain ⟨e0,_,_,_,e⟩:=h.ends hy
 have hkd:=(lk_kd hy.1).1 (by rw [←e0,hk])
 rw [hkd,if_pos rfl] at e
 simp only [List.cons.injEq] at e
 have e2:=e.2.2
 rcases hy.1.kd with ⟨_,_,g1,g2,_⟩|⟨g,_⟩|⟨g,_⟩|⟨g,_⟩
 ·rcases ht with ⟨ht,_⟩|ht
  ·rw [ht] at e2;simp at e2
  ·rw [ht] at e2
   simp only [List.cons.injEq] at e2
   rcases ht2 with ⟨g,_⟩|g
   ·rw [g] at e2;simp at e2
   ·have e3:=e2.2
    rw [g,←wds_one g2.2.1] at e3
    have e4:=wds_inj e3
    rw [e4]
    exact ⟨by rw [e2.1];exact zC8 g1,g2.1,g2.2.1⟩
 all_goals (rw [hkd] at g;exact absurd g (by decide))
theorem Six.lk_other {l:List UInt8} {k0 nm a b c d:ByteArray} {t:List (List UInt8)} (h:Six l k0 nm a b c d t) (h1:k0.data.toList≠zL9) (h2:k0.data.toList≠kGate) (h3:k0.data.toList≠kPump) (h4:k0.data.toList≠kPipe) (y:Lkr):¬IsLk l y:=fun hy=>by
 obtain ⟨e0,_⟩:=h.ends hy
 rcases lkK_vals y with e |e |e |e
 ·exact h4 (by rw [e0,e])
 ·exact h1 (by rw [e0,e])
 ·exact h2 (by rw [e0,e])
 ·exact h3 (by rw [e0,e])
end Go.Proofs.YtghefgifhebniaaGreatDoor

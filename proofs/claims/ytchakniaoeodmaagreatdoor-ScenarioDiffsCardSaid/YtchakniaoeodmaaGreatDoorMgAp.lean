/- Merged texts of these proofs: ScAp, ScDp, ScH, ScK, ScAx. -/
import Derived.Test.YtchakniaoeodmaaGreatDoorMgT
import Derived.Maps.AppendAt
namespace Go.Proofs.YtchakniaoeodmaaGreatDoor
open Go.RowKit
set_option linter.unusedVariables false
set_option linter.unusedSimpArgs false
theorem infoCh:(Tryz.prog.info? 34).map (fun i=>(i.zero,i.size,i.bytes))=some (some (.agg cZc),21,240):=by kernel_rfl
theorem info_partsC {P:Program} {e:TypeId} {x y z} (h:(P.info? e).map (fun i=>(i.zero,i.size,i.bytes))=some (x,y,z)):∃i,P.info? e=some i∧i.zero=x∧i.size=y∧i.bytes=z:=by
 cases hq:P.info? e with
 |none=>rw [hq] at h;cases h
 |some i=>
  rw [hq] at h
  have h':=Option.some.inj h
  exact ⟨i,rfl,congrArg (·.1) h',congrArg (·.2.1) h',congrArg (·.2.2) h'⟩
theorem chm_one (p:Chm):∀u∈chm p,u.oneCell'=true:=by
 intro u hu
 unfold chm at hu
 rcases List.mem_cons.1 hu with rfl |hu
 ·rfl
 rcases List.mem_append.1 hu with hu |hu
 ·exact ncm_one p.x u hu
 ·exact lcm_one p.l u hu
theorem ccs_snoc (M:List Chm) (p:Chm):ccs (M++[p])=ccs M++chm p:=by rw [ccs_append,ccs_one]
theorem zB6 {w:World} {ops:Array Oper} {rest:List Oper} {o:Oper} {a:Act} {Q:Exit→Act→World→Prop} (hgd:o.guard=none) (s x:Operand)
 (ho:o.op= .call { callee:=.builtin .append,args:=#[s,x],argTypes:=#[22,22] })
 (base:Nat) (v:Value) (M:List Chm) (hs:a.eval s=v) (hown:w.ownsRow base 34 21 v M.length (ccs M)) (g:Nat) (p:Chm) (hx:a.eval x= .slice (some ⟨g,0,none⟩) 1 1) (hb:Blk w g 34 (chm p).toArray) (h2:M.length≤20000) (w0:World) (hb0:Below base w0 w) (hbase:base≤w0.heap.size)
 (h:∀A c w',w'.ownsRow base 34 21 (.slice A (M++[p]).length c) (M++[p]).length (ccs (M++[p]))→Below base w0 w'→w.grownBy w' v.ownBlock→((Value.slice A (M++[p]).length c).ownBlock=v.ownBlock∨(Value.slice A (M++[p]).length c).ownBlock=some w.heap.size)→wpList Tryz.prog ops Q rest (a.put o.dst (.slice A (M++[p]).length c)) w'):
 wpList Tryz.prog ops Q (o::rest) a w:=by
 obtain ⟨i,hi,hz0,hz1,hz2⟩:=info_partsC infoCh
 have hm:M.length+1≤maxLen:=by unfold maxLen;omega
 have hbw:base≤w.heap.size:=nT hbase hb0.size
 refine wpList_append_own_at _ hgd s x 22 ho base 34 i _ 21 240 Tryz.underlying22 hi hz0 hz1 hz2 rfl (by decide) v M.length (ccs M) hs hown ⟨g,0,none⟩ 1 1 (chm p) hx rfl (fun j u hj=>?_) (chm_one p) hm (by omega) hbw ?_
 ·have:=hb.cells j u hj
  rwa [show (⟨g,0,none⟩:Addr).add j=⟨g,0+j,none⟩ from zU6 g 0 j]
 ·intro v' w' ho1 hg _ hat
  have hl:(M++[p]).length=M.length+1:=by simp
  rw [←ccs_snoc,←hl] at ho1
  obtain ⟨g2,c2,rfl,_,_⟩:=ho1.form (by simp)
  exact h _ c2 w' ho1 (zA9 hb0 hbw hg fun q e=>(hown.lt q e).1) hg hat
def SepC (W:World) (row:Option Nat) (M:List Chm):Prop:=∀p,p∈M→(TabIn W p.x.A p.x.x.T.length (kX p.x.x.T) (kY p.x.x.T)∧(p.x.x.T.length≠0→∀b off,p.x.A=some ⟨b,off,none⟩→some b≠row))∧(TabIn W p.l.A p.l.x.T.length (kX p.l.x.T) (kY p.l.x.T)∧(p.l.x.T.length≠0→∀b off,p.l.A=some ⟨b,off,none⟩→some b≠row))
theorem SepC.nil (W:World) (row:Option Nat):SepC W row []:=fun p hp=>absurd hp (by simp)
theorem SepC.tabs {W:World} {row:Option Nat} {M:List Chm} (h:SepC W row M):TabsC W M:=fun p hp=>⟨(h p hp).1.1,(h p hp).2.1⟩
theorem SepC.call {W W':World} {row:Option Nat} {M:List Chm} (h:SepC W row M) (hb:Below W.heap.size W W'):SepC W' row M:=fun p hp=>⟨⟨(h p hp).1.1.below (nl _) hb,(h p hp).1.2⟩,⟨(h p hp).2.1.below (nl _) hb,(h p hp).2.2⟩⟩
theorem SepC.app {W W':World} {row row':Option Nat} {M:List Chm} {p:Chm} (h:SepC W row M) (hp:SepC W row [p]) (hg:W.grownBy W' row) (hr:row'=row∨row'=some W.heap.size):SepC W' row' (M++[p]):=fun q hq=>by
 have hq2:q∈M∨q∈[p]:=List.mem_append.1 hq
 have key:(TabIn W q.x.A q.x.x.T.length (kX q.x.x.T) (kY q.x.x.T)∧(q.x.x.T.length≠0→∀b off,q.x.A=some ⟨b,off,none⟩→some b≠row))∧(TabIn W q.l.A q.l.x.T.length (kX q.l.x.T) (kY q.l.x.T)∧(q.l.x.T.length≠0→∀b off,q.l.A=some ⟨b,off,none⟩→some b≠row)):=hq2.elim (fun a=>h q a) fun a=>hp q a
 obtain ⟨⟨a1,a2⟩,b1,b2⟩:=key
 refine ⟨⟨a1.grown hg fun h0 b off e=>a2 h0 b off e,fun h0 b off e e2=>?_⟩,⟨b1.grown hg fun h0 b off e=>b2 h0 b off e,fun h0 b off e e2=>?_⟩⟩
 ·rcases hr with hr |hr
  ·exact a2 h0 b off e (e2.trans hr)
  ·have hlt:b<W.heap.size:=by rw [e] at a1;exact a1.blk_lt h0
   have:=Option.some.inj (e2.trans hr)
   omega
 ·rcases hr with hr |hr
  ·exact b2 h0 b off e (e2.trans hr)
  ·have hlt:b<W.heap.size:=by rw [e] at b1;exact b1.blk_lt h0
   have:=Option.some.inj (e2.trans hr)
   omega
def FrC (B:Nat) (M:List Chm):Prop:=∀p,p∈M→(p.x.x.T.length≠0→∀b off,p.x.A=some ⟨b,off,none⟩→B≤b)∧(p.l.x.T.length≠0→∀b off,p.l.A=some ⟨b,off,none⟩→B≤b)
theorem FrC.nil (B:Nat):FrC B []:=fun p hp=>absurd hp (by simp)
theorem FrC.snoc {B:Nat} {M:List Chm} {p:Chm} (h:FrC B M) (h1:FrC B [p]):FrC B (M++[p]):=fun q hq=>(List.mem_append.1 hq).elim (h q) (h1 q)
theorem TabsC.set {W:World} {M:List Chm} {B g i:Nat} {v:Value} (h:TabsC W M) (hf:FrC B M) (hg:g<B):TabsC (W.setCell ⟨g,i,none⟩ v) M:=fun p hp=>
 ⟨(h p hp).1.grown (zG1 W g i v) (fun h0 b off e e2=>by have:=(hf p hp).1 h0 b off e;have:=Option.some.inj e2;omega),(h p hp).2.grown (zG1 W g i v) (fun h0 b off e e2=>by have:=(hf p hp).2 h0 b off e;have:=Option.some.inj e2;omega)⟩
def chD (kd:Int) (D:Nds) (i:Nat) (K:Lks) (j:Nat):Chm:=⟨kd,ndC D i (D.SA i) (D.SC i),lkC K j (K.CA j) (K.CC j)⟩
theorem chD_r (kd:Int) (D:Nds) (i:Nat) (K:Lks) (j:Nat):(chD kd D i K j).r=chrR kd D i K j:=rfl
theorem zE7 (kd:Int) (D:Nds) (i:Nat) (K:Lks) (j:Nat):(chm (chD kd D i K j)).toArray=chA kd D i K j:=by
 unfold chm chD
 rw [zH0,zH1]
 rfl
theorem chD_sep {W:World} {row:Option Nat} {kd:Int} {D:Nds} {i:Nat} {K:Lks} {j:Nat} (h1:TabIn W (D.SA i) (D.SN i) (D.SX i) (D.SY i)) (h2:TabIn W (K.CA j) (K.CN j) (K.CX j) (K.CY j)) (f1:D.SN i≠0→∀b off,D.SA i=some ⟨b,off,none⟩→some b≠row) (f2:K.CN j≠0→∀b off,K.CA j=some ⟨b,off,none⟩→some b≠row):SepC W row [chD kd D i K j]:=fun p hp=>by
 rw [List.mem_singleton.1 hp]
 refine ⟨⟨zC2 h1,fun h0=>f1 ?_⟩,⟨zC2 h2,fun h0=>f2 ?_⟩⟩
 ·intro e;apply h0;show (edl (D.SN i) (D.SX i) (D.SY i)).length=0;rw [zD6];exact e
 ·intro e;apply h0;show (edl (K.CN j) (K.CX j) (K.CY j)).length=0;rw [zD6];exact e
theorem chD_fr {B:Nat} {kd:Int} {D:Nds} {i:Nat} {K:Lks} {j:Nat} (f1:D.SN i≠0→∀b off,D.SA i=some ⟨b,off,none⟩→B≤b) (f2:K.CN j≠0→∀b off,K.CA j=some ⟨b,off,none⟩→B≤b):FrC B [chD kd D i K j]:=fun p hp=>by
 rw [List.mem_singleton.1 hp]
 refine ⟨fun h0=>f1 ?_,fun h0=>f2 ?_⟩
 ·intro e;apply h0;show (edl (D.SN i) (D.SX i) (D.SY i)).length=0;rw [zD6];exact e
 ·intro e;apply h0;show (edl (K.CN j) (K.CX j) (K.CY j)).length=0;rw [zD6];exact e
def dqN (s:ByteArray):Nds:=⟨fun _=>s,fun _=>0,fun _=>0,fun _=>0,fun _=>0,fun _=>0,fun _=>none,fun _=>0,fun _=>0,fun _ _=>0,fun _ _=>0,fun _=>false,fun _=>0⟩
def dqL (s:ByteArray):Lks:=⟨fun _=>s,fun _=>⟨#[]⟩,fun _=>⟨#[]⟩,fun _=>0,fun _=>0,fun _=>0,fun _=>0,fun _=>⟨#[]⟩,fun _=>0,fun _=>0,fun _=>none,fun _=>0,fun _=>0,fun _ _=>0,fun _ _=>0⟩
structure DfW (w:World) (N:List Ndr) (L:List Lkr) (N':List Ndr) (L':List Lkr) (n m n' m':Nat) (A1 B1 A2 B2:Option Addr) (c1 d1 c2 d2:Nat) (Da:Nds) (Ka:Lks) (Db:Nds) (Kb:Lks) (W:World):Prop where
 ra:recN Da n=N
 la:recL Ka m=L
 rb:recN Db n'=N'
 lb:recL Kb m'=L'
 na:NdIn W A1 n Da
 ka:LkIn W B1 m Ka
 nb:NdIn W A2 n' Db
 kb:LkIn W B2 m' Kb
 xa:Blk W w.heap.size 52 #[.slice A1 n c1,.slice B1 m d1]
 xb:Blk W (w.heap.size+1) 52 #[.slice A2 n' c2,.slice B2 m' d2]
 bl:Below w.heap.size w W
structure DfI (W0 wr:World) (u:Value) (M:List Chm) (l:List Chr):Prop where
 eq:chx M=l
 own:wr.ownsRow W0.heap.size 34 21 u M.length (ccs M)
 tab:TabsC W0 M
 bel:Below W0.heap.size W0 wr
theorem DfI.start (W:World):DfI W W (.slice none 0 0) [] []:=⟨rfl,World.ownsRow_nil _ _ _ _,TabsC.nil _,bR _ _⟩
theorem DfI.call {W0 wr w':World} {u:Value} {M:List Chm} {l:List Chr} (h:DfI W0 wr u M l) (hb:Below wr.heap.size wr w'):DfI W0 w' u M l:=⟨h.eq,zC0 h.own hb,h.tab,zA1 h.bel hb⟩
theorem DfI.to {W0 wr:World} {u:Value} {M:List Chm} {l l':List Chr} (h:DfI W0 wr u M l) (e:l=l'):DfI W0 wr u M l':=⟨h.eq.trans e,h.own,h.tab,h.bel⟩
theorem DfI.small {W0 wr:World} {u:Value} {M:List Chm} {l:List Chr} (h:DfI W0 wr u M l) (hl:l.length≤2000):M.length≤20000:=by
 have:(chx M).length=M.length:=by unfold chx;simp
 rw [h.eq] at this
 omega
theorem DfI.app {W0 wr w':World} {u u':Value} {M:List Chm} {l:List Chr} {kd:Int} {C:Nds} {E:Lks} {i j:Nat} (h:DfI W0 wr u M l) (ho:w'.ownsRow W0.heap.size 34 21 u' (M++[chD kd C i E j]).length (ccs (M++[chD kd C i E j]))) (hb:Below W0.heap.size W0 w') (h1:TabIn W0 (C.SA i) (C.SN i) (C.SX i) (C.SY i)) (h2:TabIn W0 (E.CA j) (E.CN j) (E.CX j) (E.CY j)):DfI W0 w' u' (M++[chD kd C i E j]) (l++[chrR kd C i E j]):=by
 refine ⟨?_,ho,h.tab.snoc (zC2 h1) (zC2 h2),hb⟩
 rw [chx_append,h.eq]
 rfl
theorem zB9 (W:World) (X Y:Nat→Int):TabIn W none 0 X Y:=⟨by omega,.inl rfl⟩
theorem zJ1 (K:Lks) (L':List Lkr) (i:Nat):(ds1 K L' i).length≤i:=zV5 ..
theorem zM3 (K:Nds) (L':List Ndr) (i:Nat):(ds2 K L' i).length≤i:=zV5 ..
theorem zQ7 (K:Nds) (L':List Ndr) (i:Nat):(ds3 K L' i).length≤i:=zV5 ..
theorem ds4_len (K:Nds) (L':List Ndr) (i:Nat):(ds4 K L' i).length≤i:=zV5 ..
theorem ds5_len (K:Lks) (L':List Lkr) (i:Nat):(ds5 K L' i).length≤i:=zV5 ..
noncomputable def pr5 (Ka:Lks) (L':List Lkr) (m:Nat) (Da:Nds) (N':List Ndr) (n:Nat) (Db:Nds) (N:List Ndr) (n':Nat):List Chr:=ds1 Ka L' m++ds2 Da N' n++ds3 Db N n'++ds4 Db N n'
theorem DfI.post {w W0 wr:World} {A:Option Addr} {c:Nat} {M:List Chm} {l:List Chr} (h:DfI W0 wr (.slice A M.length c) M l) (hb:Below w.heap.size w W0):ChPost l w (.slice A M.length c) wr:=by
 have hl:M.length=l.length:=by have:(chx M).length=M.length:=by (unfold chx;simp)
                               rw [←h.eq];exact this.symm
 refine ⟨M,A,c,h.eq,by rw [hl],?_,h.tab.below h.bel,zA1 hb h.bel⟩
 rw [←hl]
 exact zB7 h.own hb.size
theorem pr_all (Da Db:Nds) (Ka Kb:Lks) (n m n' m':Nat):pr5 Ka (recL Kb m') m Da (recN Db n') n Db (recN Da n) n'++ds5 Kb (recL Ka m) m'=dfF (recN Da n) (recL Ka m) (recN Db n') (recL Kb m'):=by
 rw [ds_df]
 unfold pr5
 simp only [List.append_assoc]
theorem DfW.make {w W:World} {N:List Ndr} {L:List Lkr} {N':List Ndr} {L':List Lkr} {NM NM':List Ndm} {LM LM':List Lkm} {A1 B1 A2 B2:Option Addr} {c1 d1 c2 d2:Nat} {n m n' m':Nat} (e1:ndx NM=N) (e2:lkx LM=L) (e3:ndx NM'=N') (e4:lkx LM'=L') (l1:N.length=n) (l2:L.length=m) (l3:N'.length=n') (l4:L'.length=m') (z1:n≤2000) (z2:m≤2000) (z3:n'≤2000) (z4:m'≤2000) {B:Nat}
 (h1:CpR B NM LM (.slice A1 n c1) (.slice B1 m d1) W) (h2:CpR B NM' LM' (.slice A2 n' c2) (.slice B2 m' d2) W) (xa:Blk W w.heap.size 52 #[.slice A1 n c1,.slice B1 m d1]) (xb:Blk W (w.heap.size+1) 52 #[.slice A2 n' c2,.slice B2 m' d2]) (bl:Below w.heap.size w W):
 DfW w N L N' L' n m n' m' A1 B1 A2 B2 c1 d1 c2 d2 (ndsM NM) (lksM LM) (ndsM NM') (lksM LM') W:=by
 have n1:NM.length=n:=by rw [←l1,←e1];unfold ndx;simp
 have n2:LM.length=m:=by rw [←l2,←e2];unfold lkx;simp
 have n3:NM'.length=n':=by rw [←l3,←e3];unfold ndx;simp
 have n4:LM'.length=m':=by rw [←l4,←e4];unfold lkx;simp
 refine ⟨by rw [zL8 n1,e1],by rw [zM0 n2,e2],by rw [zL8 n3,e3],by rw [zM0 n4,e4],?_,?_,?_,?_,xa,xb,bl⟩
 ·have h:=(zI5 h1.on h1.tn (by omega)).2;rw [n1] at h;exact h
 ·have h:=(zG6 h1.ol h1.tl (by omega)).2;rw [n2] at h;exact h
 ·have h:=(zI5 h2.on h2.tn (by omega)).2;rw [n3] at h;exact h
 ·have h:=(zG6 h2.ol h2.tl (by omega)).2;rw [n4] at h;exact h
set_option maxRecDepth 100000 in
theorem zR9 (nm:ByteArray) (kd ax ay iv gd:Int) (A:Option Addr) (n c:Nat) (pt:Bool) (rs:Int) (f:Bool) (hf:f=decide (100<nm.size∨120<n)) (w:World):Calls Tryz.prog 43 #[.agg #[.string nm,.int .i64 kd,.int .i64 ax,.int .i64 ay,.int .i64 iv,.int .i64 gd,.slice A n c,.bool pt,.int .i64 rs]] w fun e w'=>e= .returned (.bool f)∧Below w.heap.size w w':=by
 subst hf
 by_cases h0:100<nm.size
 case pos=>
  have t0_0:decide ((100:Int)<(nm.size:Int))=true:=dU (by omega)
  have t0_1:decide (100<nm.size)=true:=dU (by omega)
  rw [dU (Or.inl h0)]
  clear h0
  go_enter Tryz.func43,Tryz.ntmps43
  go_wp2_with fail
  go_ret
  exact ⟨rfl,bel⟩
 have t0_0:decide ((100:Int)<(nm.size:Int))=false:=dF (by omega)
 have t0_1:decide (100<nm.size)=false:=dF (by omega)
 by_cases h1:120<n
 case pos=>
  have t1_0:decide ((120:Int)<(n:Int))=true:=dU (by omega)
  have t1_1:decide (120<n)=true:=dU (by omega)
  rw [dU (Or.inr (h1))]
  clear h0 h1
  go_enter Tryz.func43,Tryz.ntmps43
  go_wp2_with fail
  go_ret
  exact ⟨rfl,bel⟩
 have t1_0:decide ((120:Int)<(n:Int))=false:=dF (by omega)
 have t1_1:decide (120<n)=false:=dF (by omega)
 rw [dF (show¬(100<nm.size∨120<n) by omega)]
 clear h0 h1
 go_enter Tryz.func43,Tryz.ntmps43
 go_wp2_with fail
 go_ret
 exact ⟨rfl,bel⟩
set_option maxRecDepth 100000 in
set_option maxHeartbeats 2000000 in
theorem find_slnode (A:Option Addr) (n c k:Nat) (D:Nds) (w:World) (h2:n≤2000) (ht:NdIn w A n D) (hk:FirstAt (fun j=>decide (100<(D.Nm j).size∨120<D.SN j)) n k) (v:Int) (hv:v=if k<n then (k:Int) else -1):
 Calls Tryz.prog 110 #[.slice A n c,.func (.func 43) #[] #[]] w fun e w'=>e= .returned (.int .i64 v)∧Below w.heap.size w w':=by
 have HT:=LH ht
 have HK:=LH hk
 have H2:=LH h2
 have HV:=LH hv
 clear ht hk h2 hv
 go_enter Tryz.func110,Tryz.ntmps110
 go_wp2_with fail
 go_loopw [8] (fun u wr=>∃i:Nat,Hid (i≤n∧i≤k)∧u= .int .i64 i∧Hid (Below w.heap.size w wr)) (fun u _=>n - (RowKit.intOf u).toNat)
 case atStart=>exact ⟨0,⟨Nat.zero_le _,Nat.zero_le _⟩,rfl,bR _ _⟩
 case round=>
  obtain ⟨i,Hi,rfl,HW⟩:=hrel
  by_cases hlt:i<n
  ·have T0:decide ((i:Int)<(n:Int))=true:=by simp<;> omega
   have T0':decide (i<n)=true:=dU hlt
   obtain ⟨i',hi'⟩:∃z,z=i+1:=⟨_,rfl⟩
   have x0:IntKind.i64.wrap ((i:Int)+1)=(i':Int):=by have:=H2.out;rw [IntKind.wrap_i64];omega
   obtain ⟨b,off,rfl,hb,hC,_⟩:=(HT.out.below (nl _) HW.out).at hlt
   have c0:=hC 0 _ rfl
   have c1:=hC 1 _ rfl
   have c2:=hC 2 _ rfl
   have c3:=hC 3 _ rfl
   have c4:=hC 4 _ rfl
   have c5:=hC 5 _ rfl
   have c6:=hC 6 _ rfl
   have c7:=hC 7 _ rfl
   have c8:=hC 8 _ rfl
   simp only [Nat.add_zero] at c0
   clear hC
   have k0:(0:Int)≤(i:Int):=by omega
   have k1:(i:Int)<(n:Int):=by omega
   have HMS:Hid (n - (RowKit.intOf (Value.int .i64 (i':Int))).toNat<n - (RowKit.intOf (Value.int .i64 (i:Int))).toNat):=by show _<_;simp [RowKit.intOf];omega
   rcases zD7 HK.out hlt Hi.out.2 with ⟨hp,hik⟩|⟨hp,hik⟩
   ·have KK:=LH fun w=>(zR9 (D.Nm i) (D.Kd i) (D.Ax i) (D.Ay i) (D.Iv i) (D.Gd i) (D.SA i) (D.SN i) (D.SC i) (D.Pt i) (D.Rs i) true hp.symm w)
    have HR:Hid ((i:Int)=v):=by show (i:Int)=v;rw [HV.out,hik,if_pos (by omega)]
    clear hi' hp hik
    go_wp2_with (first |(go_at_call 43;(with_reducible refine (KK.out _).mono ?_);rintro e w1 ⟨rfl,hb1⟩;obtain ⟨hc1,hf1⟩:=zA8 hb1;have hz1:=hb1.size;(try simp at hz1);(try simp only [heap_drew,World.heap_drewN] at hz1 hc1 hf1);(try have hs1:=Nat.lt_of_succ_le hz1);(try have hs2:=Nat.lt_of_succ_lt hs1);(try have y0:w.heap.size<w1.heap.size:=by omega);(try have y1:w.heap.size+1<w1.heap.size:=by omega);(try have y2:w.heap.size+2<w1.heap.size:=by omega)))
    go_ret
    refine ⟨zC3 HR.out,?_⟩
    have:=HW.out
    exact bel
   ·have KK:=LH fun w=>(zR9 (D.Nm i) (D.Kd i) (D.Ax i) (D.Ay i) (D.Iv i) (D.Gd i) (D.SA i) (D.SN i) (D.SC i) (D.Pt i) (D.Rs i) false hp.symm w)
    have HI':Hid (i'≤n∧i'≤k):=by show _∧_;omega
    clear hi' hp hik
    go_wp2_with (first |(go_at_call 43;(with_reducible refine (KK.out _).mono ?_);rintro e w1 ⟨rfl,hb1⟩;obtain ⟨hc1,hf1⟩:=zA8 hb1;have hz1:=hb1.size;(try simp at hz1);(try simp only [heap_drew,World.heap_drewN] at hz1 hc1 hf1);(try have hs1:=Nat.lt_of_succ_le hz1);(try have hs2:=Nat.lt_of_succ_lt hs1);(try have y0:w.heap.size<w1.heap.size:=by omega);(try have y1:w.heap.size+1<w1.heap.size:=by omega);(try have y2:w.heap.size+2<w1.heap.size:=by omega)))
    go_roundw
    case rel=>exact ⟨i',HI',rfl,by have:=HW.out;exact bel⟩
    case measure=>exact HMS.out
  ·have e:i=n:=by have:=Hi.out;omega
   have HR:Hid ((-1:Int)=v):=by show (-1:Int)=v;rw [HV.out,if_neg (by have:=Hi.out;omega)]
   have T0:decide ((i:Int)<(n:Int))=false:=by simp<;> omega
   have T0':decide (i<n)=false:=dF hlt
   clear e hlt
   go_wp2_with fail
   go_ret
   exact ⟨zC3 HR.out,HW.out⟩
theorem zX6 (A:Option Addr) (n c:Nat) (D:Nds) (w:World) (h2:n≤2000) (ht:NdIn w A n D) (f:Bool) (hf:f=true↔∃j,j<n∧(fun j=>decide (100<(D.Nm j).size∨120<D.SN j)) j=true):
 Calls Tryz.prog 66 #[.slice A n c,.func (.func 43) #[] #[]] w fun e w'=>e= .returned (.bool f)∧Below w.heap.size w w':=by
 obtain ⟨k,hk⟩:=zG8 (fun j=>decide (100<(D.Nm j).size∨120<D.SN j)) n
 have hany:=zF9 hk
 have S:=LH (find_slnode A n c k D w h2 ht hk _ rfl)
 by_cases hkn:k<n
 ·have hft:f=true:=hf.2 (hany.1 hkn)
  rw [if_pos hkn] at S
  have t:decide ((0:Int)≤(k:Int))=true:=dU (by omega)
  subst hft
  clear hk hany hkn hf ht h2
  go_enter Tryz.func66,Tryz.ntmps66
  go_wp2_with (first |(go_at_call 110;(with_reducible refine (S.out).mono ?_);rintro e w1 ⟨rfl,hb1⟩;obtain ⟨hc1,hf1⟩:=zA8 hb1;have hz1:=hb1.size;(try simp at hz1);(try simp only [heap_drew,World.heap_drewN] at hz1 hc1 hf1);(try have hs1:=Nat.lt_of_succ_le hz1);(try have hs2:=Nat.lt_of_succ_lt hs1);(try have y0:w.heap.size<w1.heap.size:=by omega);(try have y1:w.heap.size+1<w1.heap.size:=by omega);(try have y2:w.heap.size+2<w1.heap.size:=by omega)))
  go_ret
  refine ⟨rfl,?_⟩
  exact bel
 ·have hft:f=false:=by
   cases f with
   |false=>rfl
   |true=>exact absurd (hany.2 (hf.1 rfl)) hkn
  rw [if_neg hkn] at S
  subst hft
  clear hk hany hkn hf ht h2
  go_enter Tryz.func66,Tryz.ntmps66
  go_wp2_with (first |(go_at_call 110;(with_reducible refine (S.out).mono ?_);rintro e w1 ⟨rfl,hb1⟩;obtain ⟨hc1,hf1⟩:=zA8 hb1;have hz1:=hb1.size;(try simp at hz1);(try simp only [heap_drew,World.heap_drewN] at hz1 hc1 hf1);(try have hs1:=Nat.lt_of_succ_le hz1);(try have hs2:=Nat.lt_of_succ_lt hs1);(try have y0:w.heap.size<w1.heap.size:=by omega);(try have y1:w.heap.size+1<w1.heap.size:=by omega);(try have y2:w.heap.size+2<w1.heap.size:=by omega)))
  go_ret
  refine ⟨rfl,?_⟩
  exact bel
set_option maxRecDepth 100000 in
theorem p_sllink (nm fr tn:ByteArray) (kd ln up dn:Int) (sc:ByteArray) (wd ht:Int) (A:Option Addr) (n c:Nat) (f:Bool) (hf:f=decide (100<nm.size∨100<fr.size∨100<tn.size∨100<sc.size∨120<n)) (w:World):Calls Tryz.prog 44 #[.agg #[.string nm,.string fr,.string tn,.int .i64 kd,.int .i64 ln,.int .i64 up,.int .i64 dn,.string sc,.int .i64 wd,.int .i64 ht,.slice A n c]] w fun e w'=>e= .returned (.bool f)∧Below w.heap.size w w':=by
 subst hf
 by_cases h0:100<nm.size
 case pos=>
  have t0_0:decide ((100:Int)<(nm.size:Int))=true:=dU (by omega)
  have t0_1:decide (100<nm.size)=true:=dU (by omega)
  rw [dU (Or.inl h0)]
  clear h0
  go_enter Tryz.func44,Tryz.ntmps44
  go_wp2_with fail
  go_ret
  exact ⟨rfl,bel⟩
 have t0_0:decide ((100:Int)<(nm.size:Int))=false:=dF (by omega)
 have t0_1:decide (100<nm.size)=false:=dF (by omega)
 by_cases h1:100<fr.size
 case pos=>
  have t1_0:decide ((100:Int)<(fr.size:Int))=true:=dU (by omega)
  have t1_1:decide (100<fr.size)=true:=dU (by omega)
  rw [dU (Or.inr (Or.inl h1))]
  clear h0 h1
  go_enter Tryz.func44,Tryz.ntmps44
  go_wp2_with fail
  go_ret
  exact ⟨rfl,bel⟩
 have t1_0:decide ((100:Int)<(fr.size:Int))=false:=dF (by omega)
 have t1_1:decide (100<fr.size)=false:=dF (by omega)
 by_cases h2:100<tn.size
 case pos=>
  have t2_0:decide ((100:Int)<(tn.size:Int))=true:=dU (by omega)
  have t2_1:decide (100<tn.size)=true:=dU (by omega)
  rw [dU (Or.inr (Or.inr (Or.inl h2)))]
  clear h0 h1 h2
  go_enter Tryz.func44,Tryz.ntmps44
  go_wp2_with fail
  go_ret
  exact ⟨rfl,bel⟩
 have t2_0:decide ((100:Int)<(tn.size:Int))=false:=dF (by omega)
 have t2_1:decide (100<tn.size)=false:=dF (by omega)
 by_cases h3:100<sc.size
 case pos=>
  have t3_0:decide ((100:Int)<(sc.size:Int))=true:=dU (by omega)
  have t3_1:decide (100<sc.size)=true:=dU (by omega)
  rw [dU (Or.inr (Or.inr (Or.inr (Or.inl h3))))]
  clear h0 h1 h2 h3
  go_enter Tryz.func44,Tryz.ntmps44
  go_wp2_with fail
  go_ret
  exact ⟨rfl,bel⟩
 have t3_0:decide ((100:Int)<(sc.size:Int))=false:=dF (by omega)
 have t3_1:decide (100<sc.size)=false:=dF (by omega)
 by_cases h4:120<n
 case pos=>
  have t4_0:decide ((120:Int)<(n:Int))=true:=dU (by omega)
  have t4_1:decide (120<n)=true:=dU (by omega)
  rw [dU (Or.inr (Or.inr (Or.inr (Or.inr (h4)))))]
  clear h0 h1 h2 h3 h4
  go_enter Tryz.func44,Tryz.ntmps44
  go_wp2_with fail
  go_ret
  exact ⟨rfl,bel⟩
 have t4_0:decide ((120:Int)<(n:Int))=false:=dF (by omega)
 have t4_1:decide (120<n)=false:=dF (by omega)
 rw [dF (show¬(100<nm.size∨100<fr.size∨100<tn.size∨100<sc.size∨120<n) by omega)]
 clear h0 h1 h2 h3 h4
 go_enter Tryz.func44,Tryz.ntmps44
 go_wp2_with fail
 go_ret
 exact ⟨rfl,bel⟩
set_option maxRecDepth 100000 in
set_option maxHeartbeats 2000000 in
theorem find_sllink (A:Option Addr) (n c k:Nat) (K:Lks) (w:World) (h2:n≤2000) (ht:LkIn w A n K) (hk:FirstAt (fun j=>decide (100<(K.Nm j).size∨100<(K.Fr j).size∨100<(K.To j).size∨100<(K.Sc j).size∨120<K.CN j)) n k) (v:Int) (hv:v=if k<n then (k:Int) else -1):
 Calls Tryz.prog 111 #[.slice A n c,.func (.func 44) #[] #[]] w fun e w'=>e= .returned (.int .i64 v)∧Below w.heap.size w w':=by
 have HT:=LH ht
 have HK:=LH hk
 have H2:=LH h2
 have HV:=LH hv
 clear ht hk h2 hv
 go_enter Tryz.func111,Tryz.ntmps111
 go_wp2_with fail
 go_loopw [8] (fun u wr=>∃i:Nat,Hid (i≤n∧i≤k)∧u= .int .i64 i∧Hid (Below w.heap.size w wr)) (fun u _=>n - (RowKit.intOf u).toNat)
 case atStart=>exact ⟨0,⟨Nat.zero_le _,Nat.zero_le _⟩,rfl,bR _ _⟩
 case round=>
  obtain ⟨i,Hi,rfl,HW⟩:=hrel
  by_cases hlt:i<n
  ·have T0:decide ((i:Int)<(n:Int))=true:=by simp<;> omega
   have T0':decide (i<n)=true:=dU hlt
   obtain ⟨i',hi'⟩:∃z,z=i+1:=⟨_,rfl⟩
   have x0:IntKind.i64.wrap ((i:Int)+1)=(i':Int):=by have:=H2.out;rw [IntKind.wrap_i64];omega
   obtain ⟨b,off,rfl,hb,hC,_⟩:=(HT.out.below (nl _) HW.out).at hlt
   have c0:=hC 0 _ rfl
   have c1:=hC 1 _ rfl
   have c2:=hC 2 _ rfl
   have c3:=hC 3 _ rfl
   have c4:=hC 4 _ rfl
   have c5:=hC 5 _ rfl
   have c6:=hC 6 _ rfl
   have c7:=hC 7 _ rfl
   have c8:=hC 8 _ rfl
   have c9:=hC 9 _ rfl
   have c10:=hC 10 _ rfl
   simp only [Nat.add_zero] at c0
   clear hC
   have k0:(0:Int)≤(i:Int):=by omega
   have k1:(i:Int)<(n:Int):=by omega
   have HMS:Hid (n - (RowKit.intOf (Value.int .i64 (i':Int))).toNat<n - (RowKit.intOf (Value.int .i64 (i:Int))).toNat):=by show _<_;simp [RowKit.intOf];omega
   rcases zD7 HK.out hlt Hi.out.2 with ⟨hp,hik⟩|⟨hp,hik⟩
   ·have KK:=LH fun w=>(p_sllink (K.Nm i) (K.Fr i) (K.To i) (K.Kd i) (K.Ln i) (K.Up i) (K.Dn i) (K.Sc i) (K.Wd i) (K.Ht i) (K.CA i) (K.CN i) (K.CC i) true hp.symm w)
    have HR:Hid ((i:Int)=v):=by show (i:Int)=v;rw [HV.out,hik,if_pos (by omega)]
    clear hi' hp hik
    go_wp2_with (first |(go_at_call 44;(with_reducible refine (KK.out _).mono ?_);rintro e w1 ⟨rfl,hb1⟩;obtain ⟨hc1,hf1⟩:=zA8 hb1;have hz1:=hb1.size;(try simp at hz1);(try simp only [heap_drew,World.heap_drewN] at hz1 hc1 hf1);(try have hs1:=Nat.lt_of_succ_le hz1);(try have hs2:=Nat.lt_of_succ_lt hs1);(try have y0:w.heap.size<w1.heap.size:=by omega);(try have y1:w.heap.size+1<w1.heap.size:=by omega);(try have y2:w.heap.size+2<w1.heap.size:=by omega)))
    go_ret
    refine ⟨zC3 HR.out,?_⟩
    have:=HW.out
    exact bel
   ·have KK:=LH fun w=>(p_sllink (K.Nm i) (K.Fr i) (K.To i) (K.Kd i) (K.Ln i) (K.Up i) (K.Dn i) (K.Sc i) (K.Wd i) (K.Ht i) (K.CA i) (K.CN i) (K.CC i) false hp.symm w)
    have HI':Hid (i'≤n∧i'≤k):=by show _∧_;omega
    clear hi' hp hik
    go_wp2_with (first |(go_at_call 44;(with_reducible refine (KK.out _).mono ?_);rintro e w1 ⟨rfl,hb1⟩;obtain ⟨hc1,hf1⟩:=zA8 hb1;have hz1:=hb1.size;(try simp at hz1);(try simp only [heap_drew,World.heap_drewN] at hz1 hc1 hf1);(try have hs1:=Nat.lt_of_succ_le hz1);(try have hs2:=Nat.lt_of_succ_lt hs1);(try have y0:w.heap.size<w1.heap.size:=by omega);(try have y1:w.heap.size+1<w1.heap.size:=by omega);(try have y2:w.heap.size+2<w1.heap.size:=by omega)))
    go_roundw
    case rel=>exact ⟨i',HI',rfl,by have:=HW.out;exact bel⟩
    case measure=>exact HMS.out
  ·have e:i=n:=by have:=Hi.out;omega
   have HR:Hid ((-1:Int)=v):=by show (-1:Int)=v;rw [HV.out,if_neg (by have:=Hi.out;omega)]
   have T0:decide ((i:Int)<(n:Int))=false:=by simp<;> omega
   have T0':decide (i<n)=false:=dF hlt
   clear e hlt
   go_wp2_with fail
   go_ret
   exact ⟨zC3 HR.out,HW.out⟩
theorem has_sllink (A:Option Addr) (n c:Nat) (K:Lks) (w:World) (h2:n≤2000) (ht:LkIn w A n K) (f:Bool) (hf:f=true↔∃j,j<n∧(fun j=>decide (100<(K.Nm j).size∨100<(K.Fr j).size∨100<(K.To j).size∨100<(K.Sc j).size∨120<K.CN j)) j=true):
 Calls Tryz.prog 67 #[.slice A n c,.func (.func 44) #[] #[]] w fun e w'=>e= .returned (.bool f)∧Below w.heap.size w w':=by
 obtain ⟨k,hk⟩:=zG8 (fun j=>decide (100<(K.Nm j).size∨100<(K.Fr j).size∨100<(K.To j).size∨100<(K.Sc j).size∨120<K.CN j)) n
 have hany:=zF9 hk
 have S:=LH (find_sllink A n c k K w h2 ht hk _ rfl)
 by_cases hkn:k<n
 ·have hft:f=true:=hf.2 (hany.1 hkn)
  rw [if_pos hkn] at S
  have t:decide ((0:Int)≤(k:Int))=true:=dU (by omega)
  subst hft
  clear hk hany hkn hf ht h2
  go_enter Tryz.func67,Tryz.ntmps67
  go_wp2_with (first |(go_at_call 111;(with_reducible refine (S.out).mono ?_);rintro e w1 ⟨rfl,hb1⟩;obtain ⟨hc1,hf1⟩:=zA8 hb1;have hz1:=hb1.size;(try simp at hz1);(try simp only [heap_drew,World.heap_drewN] at hz1 hc1 hf1);(try have hs1:=Nat.lt_of_succ_le hz1);(try have hs2:=Nat.lt_of_succ_lt hs1);(try have y0:w.heap.size<w1.heap.size:=by omega);(try have y1:w.heap.size+1<w1.heap.size:=by omega);(try have y2:w.heap.size+2<w1.heap.size:=by omega)))
  go_ret
  refine ⟨rfl,?_⟩
  exact bel
 ·have hft:f=false:=by
   cases f with
   |false=>rfl
   |true=>exact absurd (hany.2 (hf.1 rfl)) hkn
  rw [if_neg hkn] at S
  subst hft
  clear hk hany hkn hf ht h2
  go_enter Tryz.func67,Tryz.ntmps67
  go_wp2_with (first |(go_at_call 111;(with_reducible refine (S.out).mono ?_);rintro e w1 ⟨rfl,hb1⟩;obtain ⟨hc1,hf1⟩:=zA8 hb1;have hz1:=hb1.size;(try simp at hz1);(try simp only [heap_drew,World.heap_drewN] at hz1 hc1 hf1);(try have hs1:=Nat.lt_of_succ_le hz1);(try have hs2:=Nat.lt_of_succ_lt hs1);(try have y0:w.heap.size<w1.heap.size:=by omega);(try have y1:w.heap.size+1<w1.heap.size:=by omega);(try have y2:w.heap.size+2<w1.heap.size:=by omega)))
  go_ret
  refine ⟨rfl,?_⟩
  exact bel
def lgnP (D:Nds) (j:Nat):Prop:=100<(D.Nm j).size∨120<D.SN j
def lgkP (K:Lks) (j:Nat):Prop:=100<(K.Nm j).size∨100<(K.Fr j).size∨100<(K.To j).size∨100<(K.Sc j).size∨120<K.CN j
def hvyP (D:Nds) (n:Nat) (K:Lks) (m:Nat):Prop:=12<n∨20<m∨(∃j,j<n∧(fun j=>decide (100<(D.Nm j).size∨120<D.SN j)) j=true)∨(∃j,j<m∧(fun j=>decide (100<(K.Nm j).size∨100<(K.Fr j).size∨100<(K.To j).size∨100<(K.Sc j).size∨120<K.CN j)) j=true)
theorem hvy_not {D:Nds} {n:Nat} {K:Lks} {m:Nat} (h:¬hvyP D n K m):n≤12∧m≤20∧(∀i,i<n→(D.Nm i).size≤100∧D.SN i≤120)∧∀i,i<m→(K.Nm i).size≤100∧(K.Fr i).size≤100∧(K.To i).size≤100∧(K.Sc i).size≤100∧K.CN i≤120:=by
 unfold hvyP at h
 have h1:¬12<n:=fun g=>h (.inl g)
 have h2:¬20<m:=fun g=>h (.inr (.inl g))
 refine ⟨by omega,by omega,fun i hi=>?_,fun i hi=>?_⟩
 ·have:¬(100<(D.Nm i).size∨120<D.SN i):=fun g=>h (.inr (.inr (.inl ⟨i,hi,dU g⟩)))
  omega
 ·have:¬(100<(K.Nm i).size∨100<(K.Fr i).size∨100<(K.To i).size∨100<(K.Sc i).size∨120<K.CN i):=fun g=>h (.inr (.inr (.inr ⟨i,hi,dU g⟩)))
  omega
theorem edl_le {n:Nat} (X Y:Nat→Int) (h:n≤2000):(edl n X Y).length≤2000:=by rw [zD6];exact h
theorem ln_z {D:Nds} {j:Nat} (h:¬lgnP D j):ZN (zA7 D j):=by
 unfold lgnP at h
 exact ⟨by show (D.Nm j).size≤_;unfold maxLen;omega,edl_le _ _ (by omega)⟩
theorem ll_z {K:Lks} {j:Nat} (h:¬lgkP K j):ZL (zA5 K j):=by
 unfold lgkP at h
 exact ⟨by show (K.Nm j).size≤_;unfold maxLen;omega,by show (K.Fr j).size≤_;unfold maxLen;omega,by show (K.To j).size≤_;unfold maxLen;omega,by show (K.Sc j).size≤_;unfold maxLen;omega,edl_le _ _ (by omega)⟩
theorem hvy_zz {D:Nds} {n:Nat} {K:Lks} {m:Nat} (h:¬hvyP D n K m):ZZ (recN D n) (recL K m):=by
 obtain ⟨h1,h2,h3,h4⟩:=hvy_not h
 refine ⟨by rw [zA3];omega,by rw [zA4];omega,fun x hx=>?_,fun x hx=>?_⟩
 ·obtain ⟨k,hk,rfl⟩:=List.mem_map.1 hx
  have:=h3 k (List.mem_range.1 hk)
  exact ln_z (by unfold lgnP;omega)
 ·obtain ⟨k,hk,rfl⟩:=List.mem_map.1 hx
  have:=h4 k (List.mem_range.1 hk)
  exact ll_z (by unfold lgkP;omega)
set_option maxRecDepth 100000 in
set_option maxHeartbeats 4000000 in
theorem sc_heavy (NA LA:Option Addr) (n nc m lc:Nat) (D:Nds) (K:Lks) (w:World) (hD:NdIn w NA n D) (hK:LkIn w LA m K):
 Calls Tryz.prog 24 #[.agg #[.slice NA n nc,.slice LA m lc]] w fun e w'=>e= .returned (.bool (boolOf (hvyP D n K m)))∧Below w.heap.size w w':=by
 have HD:=LH hD
 have HK:=LH hK
 have H0:Hid (Below w.heap.size w (w.alloc (Obj.cells #[.slice NA n nc,.slice LA m lc] 52))):=(bR _ w).alloc (nl _) _
 have HB0:=LH (Blk.new w 52 #[.slice NA n nc,.slice LA m lc])
 clear hD hK
 obtain ⟨F,hF⟩:∃F,Hid (F=boolOf (hvyP D n K m)):=⟨_,rfl⟩
 rw [←hF.out]
 by_cases h1:12<n
 ·obtain rfl:F=true:=hF.out.trans (zA2 (.inl h1))
  have a1:decide ((12:Int)<(n:Int))=true:=dU (by omega)
  have a2:decide (12<n)=true:=dU h1
  clear h1 hF HD HK
  go_enter Tryz.func24,Tryz.ntmps24
  go_upto_region 1 with fail
  generalize w.alloc (Obj.cells #[.slice NA n nc,.slice LA m lc] 52)=w0 at H0 HB0⊢
  obtain ⟨y0,y1⟩:=blk2 HB0.out
  go_wp2_with fail
  go_ret
  exact ⟨rfl,H0.out⟩
 have a1:decide ((12:Int)<(n:Int))=false:=dF (by omega)
 have a2:decide (12<n)=false:=dF h1
 by_cases h2:20<m
 ·obtain rfl:F=true:=hF.out.trans (zA2 (.inr (.inl h2)))
  have b1:decide ((20:Int)<(m:Int))=true:=dU (by omega)
  have b2:decide (20<m)=true:=dU h2
  clear h1 h2 hF HD HK
  go_enter Tryz.func24,Tryz.ntmps24
  go_upto_region 1 with fail
  generalize w.alloc (Obj.cells #[.slice NA n nc,.slice LA m lc] 52)=w0 at H0 HB0⊢
  obtain ⟨y0,y1⟩:=blk2 HB0.out
  go_wp2_with fail
  go_ret
  exact ⟨rfl,H0.out⟩
 have b1:decide ((20:Int)<(m:Int))=false:=dF (by omega)
 have b2:decide (20<m)=false:=dF h2
 have hn2:n≤2000:=by omega
 have hm2:m≤2000:=by omega
 by_cases h3:∃j,j<n∧(fun j=>decide (100<(D.Nm j).size∨120<D.SN j)) j=true
 ·obtain rfl:F=true:=hF.out.trans (zA2 (.inr (.inr (.inl h3))))
  have SN:=LH fun w hD=>zX6 NA n nc D w hn2 hD true ⟨fun _=>h3,fun _=>rfl⟩
  clear h1 h2 h3 hF hn2 hm2
  go_enter Tryz.func24,Tryz.ntmps24
  go_upto_region 1 with fail
  generalize w.alloc (Obj.cells #[.slice NA n nc,.slice LA m lc] 52)=w0 at H0 HB0⊢
  obtain ⟨y0,y1⟩:=blk2 HB0.out
  go_wp2_with (first
   |(go_at_call 66
     with_reducible refine (SN.out _ ?_).mono ?_
     focus (exact HD.out.below (nl _) H0.out)
     rintro e w1 ⟨rfl,hb1⟩
     have H1:=LH (zA1 H0.out hb1)
     obtain ⟨d0,d1⟩:=blk2 (HB0.out.call hb1)
     clear hb1))
  go_ret
  exact ⟨rfl,H1.out⟩
 have SN:=LH fun w hD=>zX6 NA n nc D w hn2 hD false ⟨fun h=>(by cases h),fun h=>absurd h h3⟩
 have key:F=true↔∃j,j<m∧(fun j=>decide (100<(K.Nm j).size∨100<(K.Fr j).size∨100<(K.To j).size∨100<(K.Sc j).size∨120<K.CN j)) j=true:=by
  by_cases h4:∃j,j<m∧(fun j=>decide (100<(K.Nm j).size∨100<(K.Fr j).size∨100<(K.To j).size∨100<(K.Sc j).size∨120<K.CN j)) j=true
  ·rw [hF.out,zA2 (show hvyP D n K m from .inr (.inr (.inr h4)))];exact ⟨fun _=>h4,fun _=>rfl⟩
  ·rw [hF.out,zA0 (show¬hvyP D n K m from fun h=>h.elim h1 fun h=>h.elim h2 fun h=>h.elim h3 h4)];exact ⟨fun h=>(by cases h),fun h=>absurd h h4⟩
 have SL:=LH fun w hK=>has_sllink LA m lc K w hm2 hK F key
 clear h1 h2 h3 hF key hn2 hm2
 go_enter Tryz.func24,Tryz.ntmps24
 go_upto_region 1 with fail
 generalize w.alloc (Obj.cells #[.slice NA n nc,.slice LA m lc] 52)=w0 at H0 HB0⊢
 obtain ⟨y0,y1⟩:=blk2 HB0.out
 go_wp2_with (first
  |(go_at_call 66
    with_reducible refine (SN.out _ ?_).mono ?_
    focus (exact HD.out.below (nl _) H0.out)
    rintro e w1 ⟨rfl,hb1⟩
    have H1:=LH (zA1 H0.out hb1)
    obtain ⟨d0,d1⟩:=blk2 (HB0.out.call hb1)
    clear hb1)
  |(go_at_call 67
    with_reducible refine (SL.out _ ?_).mono ?_
    focus (exact HK.out.below (nl _) H1.out)
    rintro e w2 ⟨rfl,hb2⟩
    have H2:=LH (zA1 H1.out hb2)
    clear hb2))
 go_ret
 exact ⟨rfl,H2.out⟩
theorem op_ok {N:List Ndr} {L:List Lkr} {c:Chr} (h:VS N L) (a:apOK N L c):(opN N c).Perm (pN N c)∧(opL L c).Perm (pL L c)∧VS (opN N c) (opL L c):=by
 have p1:=opN_perm (c:=c) h.nn a.a2
 have p2:=opL_perm (c:=c) h.ln a.a5
 exact ⟨p1,p2,a.vs.perm p1.symm p2.symm⟩
noncomputable def aN (N:List Ndr) (cs:List Chr):List Ndr:=cs.foldl opN N
noncomputable def aL (L:List Lkr) (cs:List Chr):List Lkr:=cs.foldl opL L
theorem aN_snoc (N:List Ndr) (cs:List Chr) (c:Chr):aN N (cs++[c])=opN (aN N cs) c:=by unfold aN;rw [List.foldl_append];rfl
theorem aL_snoc (L:List Lkr) (cs:List Chr) (c:Chr):aL L (cs++[c])=opL (aL L cs) c:=by unfold aL;rw [List.foldl_append];rfl
def okA:List Ndr→List Lkr→List Chr→Prop
 |_,_,[]=>True
 |N,L,c::cs=>apE N L c=0∧okA (opN N c) (opL L c) cs
theorem zM8:∀(cs:List Chr) {N:List Ndr} {L:List Lkr} {c:Chr},okA N L (cs++[c])↔okA N L cs∧apE (aN N cs) (aL L cs) c=0
 |[],N,L,c=>by simp [okA,aN,aL]
 |d::cs,N,L,c=>by
  show apE N L d=0∧okA (opN N d) (opL L d) (cs++[c])↔(apE N L d=0∧okA (opN N d) (opL L d) cs)∧apE (aN (opN N d) cs) (aL (opL L d) cs) c=0
  rw [zM8 cs,and_assoc]
theorem okA_all:∀(cs:List Chr) {N:List Ndr} {L:List Lkr},VS N L→(okA N L cs↔okAll N L cs)
 |[],N,L,_=>Iff.rfl
 |c::cs,N,L,h=>by
  show apE N L c=0∧okA (opN N c) (opL L c) cs↔apOK N L c∧okAll (pN N c) (pL L c) cs
  rw [zP5 h]
  constructor
  ·rintro ⟨a,b⟩
   obtain ⟨p1,p2,v⟩:=op_ok h a
   exact ⟨a,(zM7 cs p1 p2 ((okA_all cs v).1 b)).1⟩
  ·rintro ⟨a,b⟩
   obtain ⟨p1,p2,v⟩:=op_ok h a
   exact ⟨a,(okA_all cs v).2 (zM7 cs p1.symm p2.symm b).1⟩
theorem aN_re:∀(cs:List Chr) {N:List Ndr} {L:List Lkr},VS N L→okA N L cs→VS (aN N cs) (aL L cs)∧(aN N cs).Perm (reN N cs)∧(aL L cs).Perm (reL L cs)
 |[],N,L,h,_=>⟨h,List.Perm.refl _,List.Perm.refl _⟩
 |c::cs,N,L,h,a=>by
  obtain ⟨p1,p2,v⟩:=op_ok h ((zP5 h).1 a.1)
  obtain ⟨v',r1,r2⟩:=aN_re cs v a.2
  have hk:=zM7 cs p1 p2 ((okA_all cs v).1 a.2)
  exact ⟨v',r1.trans hk.2.1,r2.trans hk.2.2⟩
def alkP (N:List Ndr) (L:List Lkr) (N':List Ndr) (L':List Lkr):Prop:=N.length=N'.length∧L.length=L'.length∧dfF N L N' L'=[]
theorem alk_perm {N N':List Ndr} {L L':List Lkr} (h:VS N L) (h':VS N' L'):alkP N L N' L'↔N.Perm N'∧L.Perm L':=by
 unfold alkP
 rw [dfF_nil h h']
 exact ⟨fun q=>q.2.2,fun q=>⟨q.1.length_eq,q.2.length_eq,q⟩⟩
def oD:Nds:={ dqN ⟨#[111]⟩ with Kd:=fun _=>3 }
def oR:Ndr:=⟨⟨#[111]⟩,3,0,0,0,0,[],false,0⟩
theorem oR_v:vNd oR:=by
 show zQ1 _ _ _ _ _ _ _ _ _ _ _
 exact ⟨by decide,by show poP 0;decide,by show poP 0;decide,⟨by show lvP 0;decide,by show lvP 0;decide⟩,.inl ⟨rfl,by decide,rfl,rfl,rfl⟩⟩
theorem vs_nil:VS [] []:=⟨by simp,by simp,fun x h=>absurd h (by simp),List.nodup_nil,fun x h=>absurd h (by simp),List.nodup_nil,fun x h=>absurd h (by simp),fun x h=>absurd h (by simp)⟩
theorem vs_o:VS [oR] []:=⟨by simp,by simp,fun x h=>by rw [List.mem_singleton.1 h];exact oR_v,by simp,fun x h=>absurd h (by simp),List.nodup_nil,fun x h=>absurd h (by simp),fun x h=>absurd h (by simp)⟩
theorem df_o:dfF [oR] [] [] []=[zV4 ⟨#[111]⟩]:=by
 unfold dfF hasN
 simp [oR]
theorem ok_o:apOK [] [] ⟨1,oR,zLk⟩:=by
 refine ⟨by decide,fun _ h=>?_,fun h=>?_,fun h=>?_,fun h=>?_,fun h=>?_,?_⟩
 ·obtain ⟨x,hx,_⟩:=h;cases hx
 ·exact absurd h (by decide)
 ·exact absurd h (by decide)
 ·exact absurd h (by decide)
 ·exact absurd h (by decide)
 ·rw [pN_1 rfl,pL_of (.inl rfl)]
  exact vs_o
theorem ap_o:ApE [] [] ⟨1,oR,zLk⟩=0∧ApN [] [] ⟨1,oR,zLk⟩=[oR]:=by
 have h:ApE [] [] ⟨1,oR,zLk⟩=0:=(apl_ap vs_nil).1.trans ((zP5 vs_nil).2 ok_o)
 refine ⟨h,?_⟩
 unfold ApN
 rw [if_pos h,opN_1 rfl]
 rfl
def dropA:Chr:=zV4 ⟨#[97]⟩
theorem dropA_r:chrR 3 (dqN ⟨#[97]⟩) 0 (dqL ⟨#[]⟩) 0=dropA:=rfl
end Go.Proofs.YtchakniaoeodmaaGreatDoor

/- Merged texts of these proofs: OpSt,OpDf,LDf. -/
import Derived.Test.YtchakniaoeodmaaGreatDoorMgMs
import Derived.Test.YtchakniaoeodmaaGreatDoorMgOx
import Derived.Test.YtchakniaoeodmaaGreatDoorMgDa
import Derived.Test.YtchakniaoeodmaaGreatDoorRows
import Derived.Test.YtchakniaoeodmaaGreatDoorStay
import Derived.Test.YtchakniaoeodmaaGreatDoorMgQ
import Derived.LaidMore
import Derived.Lay
import Derived.Stop.Joined
import Derived.Stop.LaidErr
import Derived.Lib.LaidTab
import Derived.Test.YtchakniaoeodmaaGreatDoorMgP
import Derived.Test.YtchakniaoeodmaaGreatDoorMgAwx
import Derived.Test.YtchakniaoeodmaaGreatDoorMgDd
import Derived.Test.YtchakniaoeodmaaGreatDoorMgDc
import Derived.Test.YtchakniaoeodmaaGreatDoorNetW
namespace Go.Proofs.YtchakniaoeodmaaGreatDoor
open Go.RowKit Go.WideShapes Go.ChangeShapes Go.ChangeAt Go.Deep Go.Joins
set_option linter.unusedVariables false
set_option linter.unusedSimpArgs false
open Classical in
noncomputable def intsOf (W:World) (A:Option Addr) (n:Nat):Nat→Int:=if h:∃C,IntIn W A n C then h.choose else fun _=>0
theorem intsOf_in {W:World} {A:Option Addr} {n:Nat} {C:Nat→Int} (h:IntIn W A n C):IntIn W A n (intsOf W A n):=by
 unfold intsOf
 rw [dif_pos ⟨C,h⟩]
 exact (⟨C,h⟩:∃C,IntIn W A n C).choose_spec
open Classical in
noncomputable def boolsOf (W:World) (A:Option Addr) (n:Nat):Nat→Bool:=if h:∃C,BoolIn W A n C then h.choose else fun _=>false
theorem boolsOf_in {W:World} {A:Option Addr} {n:Nat} {C:Nat→Bool} (h:BoolIn W A n C):BoolIn W A n (boolsOf W A n):=by
 unfold boolsOf
 rw [dif_pos ⟨C,h⟩]
 exact (⟨C,h⟩:∃C,BoolIn W A n C).choose_spec
theorem cII:Tryz.prog.cellsOf 74=1:=by kernel_rfl
theorem cBB:Tryz.prog.cellsOf 75=1:=by kernel_rfl
section
variable {H:Type} {enc:TypeId×Value→H} {W:World}
set_option maxRecDepth 100000 in
theorem open_ints_cells {fuel:Nat} {v:Value} {x:DataW H×List MemPlace} (hf:DataW.trod enc Tryz.prog W 0 (fun _=>true) true fuel 74 [v]=some x):
 ∃(A:Option Addr) (n c:Nat) (C:Nat→Int),v= .slice A n c∧IntIn W A n C:=by
 rcases open_slice Tryz.underlying74 hf with ⟨hcs,_⟩|⟨a,len,cap,m,n,D,Pl,hcs,hb,hl,hm,hmm,hx,hi⟩
 ·obtain rfl:v= .slice none 0 0:=by simpa using hcs
  exact ⟨none,0,0,fun _=>0,rfl,by omega,.inl rfl⟩
 ·obtain rfl:v= .slice (some a) len cap:=by simpa using hcs
  unfold maxLen at hm
  simp only [if_true] at hmm
  have hC:Tryz.prog.cellsOf 3=1:=by kernel_rfl
  refine ⟨some a,len,cap,fun i=>cInt W (a.add i),rfl,by omega,?_⟩
  have cells:∀i,i<len→W.cell? (a.add i)=some (.int .i64 (cInt W (a.add i))):=by
   intro i him
   obtain ⟨cs',hc,ht'⟩:=hi i (by omega)
   rw [hC,Nat.mul_one] at hc
   obtain ⟨_,hcl,hat⟩:=World.cells?_some hc
   have h0:=hat 0 (by omega)
   match cs',hcl with
   |[u],_=>
    obtain ⟨z,e,_,_⟩:=DataW.trod_int Tryz.underlying3 ht'
    simp only [List.cons.injEq,and_true] at e
    subst e
    have ha0:(a.add i).add 0=a.add i:=by unfold Addr.add;simp
    rw [ha0] at h0
    rw [zG0 h0,h0]
    rfl
  rcases Nat.eq_zero_or_pos len with h0 |h0
  ·exact .inl h0
  ·right
   have hc:=cells 0 h0
   have ha0:a.add 0=a:=by unfold Addr.add;simp
   rw [ha0] at hc
   obtain ⟨b,off,rfl,hlt,e⟩:=addr_at hc
   refine ⟨b,off,rfl,hlt,fun k hk=>?_⟩
   have:=cells k hk
   rw [e] at this
   rw [this,←e]
set_option maxRecDepth 100000 in
theorem open_bools_cells {fuel:Nat} {v:Value} {x:DataW H×List MemPlace} (hf:DataW.trod enc Tryz.prog W 0 (fun _=>true) true fuel 75 [v]=some x):
 ∃(A:Option Addr) (n c:Nat) (C:Nat→Bool),v= .slice A n c∧BoolIn W A n C:=by
 rcases open_slice Tryz.underlying75 hf with ⟨hcs,_⟩|⟨a,len,cap,m,n,D,Pl,hcs,hb,hl,hm,hmm,hx,hi⟩
 ·obtain rfl:v= .slice none 0 0:=by simpa using hcs
  exact ⟨none,0,0,fun _=>false,rfl,by omega,.inl rfl⟩
 ·obtain rfl:v= .slice (some a) len cap:=by simpa using hcs
  unfold maxLen at hm
  simp only [if_true] at hmm
  have hC:Tryz.prog.cellsOf 4=1:=by kernel_rfl
  refine ⟨some a,len,cap,fun i=>cBool W (a.add i),rfl,by omega,?_⟩
  have cells:∀i,i<len→W.cell? (a.add i)=some (.bool (cBool W (a.add i))):=by
   intro i him
   obtain ⟨cs',hc,ht'⟩:=hi i (by omega)
   rw [hC,Nat.mul_one] at hc
   obtain ⟨_,hcl,hat⟩:=World.cells?_some hc
   have h0:=hat 0 (by omega)
   match cs',hcl with
   |[u],_=>
    obtain ⟨z,e,_⟩:=DataW.trod_bool Tryz.underlying4 ht'
    simp only [List.cons.injEq,and_true] at e
    subst e
    have ha0:(a.add i).add 0=a.add i:=by unfold Addr.add;simp
    rw [ha0] at h0
    rw [cBool_of h0,h0]
    rfl
  rcases Nat.eq_zero_or_pos len with h0 |h0
  ·exact .inl h0
  ·right
   have hc:=cells 0 h0
   have ha0:a.add 0=a:=by unfold Addr.add;simp
   rw [ha0] at hc
   obtain ⟨b,off,rfl,hlt,e⟩:=addr_at hc
   refine ⟨b,off,rfl,hlt,fun k hk=>?_⟩
   have:=cells k hk
   rw [e] at this
   rw [this,←e]
set_option maxRecDepth 100000 in
theorem open_state_cells {fuel:Nat} {vs:List Value} {y:DataW H×List MemPlace} (h:DataW.trod enc Tryz.prog W 0 (fun _=>true) true fuel 77 vs=some y):
 ∃(VA:Option Addr) (VN VC:Nat) (V:Nat→Int) (PA:Option Addr) (PN PC:Nat) (P:Nat→Int) (SA:Option Addr) (SN SC:Nat) (S:Nat→Int) (OA:Option Addr) (ON OC:Nat) (O:Nat→Bool),vs=[.slice VA VN VC,.slice PA PN PC,.slice SA SN SC,.slice OA ON OC]∧IntIn W VA VN V∧IntIn W PA PN P∧IntIn W SA SN S∧BoolIn W OA ON O:=by
 obtain ⟨ys,m,_,_,hl,hyl,hf⟩:=DataW.trod_struct Tryz.underlying77 h
 have hl9:vs.length=4:=hl.trans (by kernel_rfl)
 have hyl8:ys.length=4:=hyl
 match vs,hl9 with
 |[v0,v1,v2,v3],_=>
 match ys,hyl8 with
 |[y0,y1,y2,y3],_=>
  have f0:DataW.trod enc Tryz.prog W 0 (fun _=>true) true m 74 [v0]=some y0:=by simpa [cS,cI,cB,cT,cII,cBB,cP] using hf 0 _ rfl
  obtain ⟨VA,VN,VC,V,e0,h0⟩:=open_ints_cells f0
  have f1:DataW.trod enc Tryz.prog W 0 (fun _=>true) true m 74 [v1]=some y1:=by simpa [cS,cI,cB,cT,cII,cBB,cP] using hf 1 _ rfl
  obtain ⟨PA,PN,PC,P,e1,h1⟩:=open_ints_cells f1
  have f2:DataW.trod enc Tryz.prog W 0 (fun _=>true) true m 74 [v2]=some y2:=by simpa [cS,cI,cB,cT,cII,cBB,cP] using hf 2 _ rfl
  obtain ⟨SA,SN,SC,S,e2,h2⟩:=open_ints_cells f2
  have f3:DataW.trod enc Tryz.prog W 0 (fun _=>true) true m 75 [v3]=some y3:=by simpa [cS,cI,cB,cT,cII,cBB,cP] using hf 3 _ rfl
  obtain ⟨OA,ON,OC,O,e3,h3⟩:=open_bools_cells f3
  subst e0;subst e1;subst e2;subst e3
  exact ⟨VA,VN,VC,V,PA,PN,PC,P,SA,SN,SC,S,OA,ON,OC,O,rfl,h0,h1,h2,h3⟩
set_option maxRecDepth 100000 in
theorem open_state_slice {fuel:Nat} {v:Value} {x:DataW H×List MemPlace} (hf:DataW.trod enc Tryz.prog W 0 (fun _=>true) true fuel 73 [v]=some x):
 ∃(A:Option Addr) (n c:Nat) (D:Sts),v= .slice A n c∧StIn W A n D:=by
 rcases open_slice Tryz.underlying73 hf with ⟨hcs,_⟩|⟨a,len,cap,m,n,D,Pl,hcs,hb,hl,hm,hmm,hx,hi⟩
 ·obtain rfl:v= .slice none 0 0:=by simpa using hcs
  exact ⟨none,0,0,⟨fun _=>none,fun _=>0,fun _=>0,fun _ _=>0,fun _=>none,fun _=>0,fun _=>0,fun _ _=>0,fun _=>none,fun _=>0,fun _=>0,fun _ _=>0,fun _=>none,fun _=>0,fun _=>0,fun _ _=>false⟩,rfl,by omega,.inl rfl⟩
 ·obtain rfl:v= .slice (some a) len cap:=by simpa using hcs
  unfold maxLen at hm
  simp only [if_true] at hmm
  have hC:Tryz.prog.cellsOf 77=4:=by kernel_rfl
  refine ⟨some a,len,cap,⟨fun i=>(cSl W (a.add (i*4+0))).1,fun i=>(cSl W (a.add (i*4+0))).2.1,fun i=>(cSl W (a.add (i*4+0))).2.2,fun i=>intsOf W (cSl W (a.add (i*4+0))).1 (cSl W (a.add (i*4+0))).2.1,fun i=>(cSl W (a.add (i*4+1))).1,fun i=>(cSl W (a.add (i*4+1))).2.1,fun i=>(cSl W (a.add (i*4+1))).2.2,fun i=>intsOf W (cSl W (a.add (i*4+1))).1 (cSl W (a.add (i*4+1))).2.1,fun i=>(cSl W (a.add (i*4+2))).1,fun i=>(cSl W (a.add (i*4+2))).2.1,fun i=>(cSl W (a.add (i*4+2))).2.2,fun i=>intsOf W (cSl W (a.add (i*4+2))).1 (cSl W (a.add (i*4+2))).2.1,fun i=>(cSl W (a.add (i*4+3))).1,fun i=>(cSl W (a.add (i*4+3))).2.1,fun i=>(cSl W (a.add (i*4+3))).2.2,fun i=>boolsOf W (cSl W (a.add (i*4+3))).1 (cSl W (a.add (i*4+3))).2.1⟩,rfl,by omega,?_⟩
  have cells:∀i,i<len→(∀j v,([.slice (cSl W (a.add (i*4+0))).1 (cSl W (a.add (i*4+0))).2.1 (cSl W (a.add (i*4+0))).2.2,.slice (cSl W (a.add (i*4+1))).1 (cSl W (a.add (i*4+1))).2.1 (cSl W (a.add (i*4+1))).2.2,.slice (cSl W (a.add (i*4+2))).1 (cSl W (a.add (i*4+2))).2.1 (cSl W (a.add (i*4+2))).2.2,.slice (cSl W (a.add (i*4+3))).1 (cSl W (a.add (i*4+3))).2.1 (cSl W (a.add (i*4+3))).2.2]:List Value)[j]?=some v→W.cell? (a.add (i*4+j))=some v)∧IntIn W (cSl W (a.add (i*4+0))).1 (cSl W (a.add (i*4+0))).2.1 (intsOf W (cSl W (a.add (i*4+0))).1 (cSl W (a.add (i*4+0))).2.1)∧IntIn W (cSl W (a.add (i*4+1))).1 (cSl W (a.add (i*4+1))).2.1 (intsOf W (cSl W (a.add (i*4+1))).1 (cSl W (a.add (i*4+1))).2.1)∧IntIn W (cSl W (a.add (i*4+2))).1 (cSl W (a.add (i*4+2))).2.1 (intsOf W (cSl W (a.add (i*4+2))).1 (cSl W (a.add (i*4+2))).2.1)∧BoolIn W (cSl W (a.add (i*4+3))).1 (cSl W (a.add (i*4+3))).2.1 (boolsOf W (cSl W (a.add (i*4+3))).1 (cSl W (a.add (i*4+3))).2.1):=by
   intro i him
   obtain ⟨cs',hc,ht'⟩:=hi i (by omega)
   rw [hC] at hc
   obtain ⟨_,hcl,hat0⟩:=World.cells?_some hc
   obtain ⟨VA,VN,VC,V,PA,PN,PC,P,SA,SN,SC,S,OA,ON,OC,O,rfl,hVA,hPA,hSA,hOA⟩:=open_state_cells ht'
   have hat:∀j v,([.slice VA VN VC,.slice PA PN PC,.slice SA SN SC,.slice OA ON OC]:List Value)[j]?=some v→W.cell? (a.add (i*4+j))=some v:=fun j v hj=>by
        have hjl:j<4:=by
         have:=(List.getElem?_eq_some_iff.1 hj).1
         simpa using this
        rw [←Go.Deep.add_add,hat0 j hjl]
        exact hj
   rw [cSl_of (hat 0 _ rfl),cSl_of (hat 1 _ rfl),cSl_of (hat 2 _ rfl),cSl_of (hat 3 _ rfl)]
   exact ⟨hat,intsOf_in hVA,intsOf_in hPA,intsOf_in hSA,boolsOf_in hOA⟩
  rcases Nat.eq_zero_or_pos len with h0 |h0
  ·exact .inl h0
  ·right
   have hc:=(cells 0 h0).1 0 _ rfl
   rw [Nat.zero_mul] at hc
   have ha0:a.add (0+0)=a:=by unfold Addr.add;simp
   rw [ha0] at hc
   obtain ⟨b,off,rfl,hlt,e⟩:=addr_at hc
   refine ⟨b,off,rfl,hlt,fun k hk=>?_⟩
   have hck:=cells k hk
   refine ⟨fun j v hj=>?_,hck.2⟩
   have:=hck.1 j v hj
   rw [e,←Nat.add_assoc] at this
   exact this
set_option maxRecDepth 100000 in
theorem open_states {b0:Nat} {v:Value} {d:DataW H} {p:List MemPlace} (hv:Value.okWide Tryz.prog W .any b0 73 v) (h:DataW.Trod enc Tryz.prog W 0 (fun _=>true) true 73 v d p):
 ∃(A:Option Addr) (n c:Nat) (S:Sts),v= .slice A n c∧StIn W A n S:=by
 obtain ⟨a,len,cap,rfl⟩:=okWide_slice Tryz.underlying73 hv
 obtain ⟨fuel,hf⟩:=h
 exact open_state_slice (v:=.slice a len cap) (by simpa [Value.cells] using hf)
end
end Go.Proofs.YtchakniaoeodmaaGreatDoor
namespace Go.Proofs.YtchakniaoeodmaaGreatDoor.scenarioDiffsRow
open Go.Proofs.YtchakniaoeodmaaGreatDoor Go.RowKit Go.WideShapes Go.ChangeShapes Go.ChangeAt Go.Deep Go.Joins
theorem door_met (os:Os) (args:Array Value):laidMetH Tryz.prog Rows.scenarioDiffsRow.laid ((World.laidAll Tryz.prog os Rows.scenarioDiffsRow.laid).forCall (fun _ _=>0) ⟨#[],args,[]⟩).memory:=by
 rw [MakeChecks.laidMetH_plain _ _ _ (by kernel_rfl)]
 exact laidMet_laidAll _ (by kernel_rfl) (by kernel_rfl)
end Go.Proofs.YtchakniaoeodmaaGreatDoor.scenarioDiffsRow
namespace Go.Proofs.YtchakniaoeodmaaGreatDoor
open Go.RowKit
def CmA (M:List (Int×Int)) (k:Nat) (er:Int) (w:World) (e:Ending) (w':World):Prop:=∃(A:Option Addr) (c:Nat),e= .returned (.tuple #[.slice A k c,.int .i64 er])∧TabIn w' A k (kX M) (kY M)∧Below w.heap.size w w'
theorem cm_A {M:List (Int×Int)} {er:Int} {w w':World} {e:Ending} (h:CmPost M er w e w') (hb:M.length≤3000):CmA M M.length er w e w':=by
 obtain ⟨v,rfl,hs,hw⟩:=h
 obtain ⟨A,c,rfl⟩:=hs.form
 exact ⟨A,c,rfl,(hs.tab hb).2,hw⟩
theorem cmL_len {S T:Sts} {n n':Nat} (h:S.VN 0≤12∨n=0):(cmL S T n n').length≤3000:=by
 unfold cmL
 split
 ·next h0=>
  rw [cmpL_len]
  rcases h with h |h
  ·omega
  ·subst h
   exfalso
   revert h0
   unfold cmE
   split
   ·simp
   ·simp
 ·simp
def DfB (l:List Chr) (k:Nat) (er:Int) (w:World) (e:Ending) (w':World):Prop:=∃(A:Option Addr) (c:Nat) (Kd:Nat→Int) (D:Nds) (K:Lks),e= .returned (.tuple #[.slice A k c,.int .i64 er])∧ChsIn w' A k Kd D K∧recC Kd D K k=l∧Below w.heap.size w w'
theorem dfB_of {l:List Chr} {k:Nat} {w w':World} {e:Ending} (h:DfA l k w e w'):DfB l k 0 w e w':=h
theorem dfB_no {w w':World} {e:Ending} (he:e= .returned (.tuple #[.slice none 0 0,.int .i64 1])) (hb:Below w.heap.size w w'):DfB [] 0 1 w e w':=
 ⟨none,0,fun _=>0,ndsM [],lksM [],he,⟨by omega,.inl rfl⟩,rfl,hb⟩
def DfC (l:List Chr) (k:Nat) (w:World) (e:Ending) (w':World):Prop:=∃(A:Option Addr) (c:Nat) (Kd:Nat→Int) (D:Nds) (K:Lks),e= .returned (.slice A k c)∧ChsIn w' A k Kd D K∧recC Kd D K k=l∧Below w.heap.size w w'
theorem df_C {l:List Chr} {k:Nat} {w w':World} {e:Ending} (h:∃u,e= .returned u∧ChPost l w u w') (hk:l.length=k) (hb:k≤300000):DfC l k w e w':=by
 obtain ⟨u,rfl,hp⟩:=h
 subst hk
 obtain ⟨A,c,Kd,D,K,rfl,a,b,d⟩:=hp.read hb
 exact ⟨A,c,Kd,D,K,rfl,a,b,d⟩
set_option maxRecDepth 100000 in
set_option maxHeartbeats 32000000 in
theorem l_diffs (NA LA NB LB AA AB:Option Addr) (n nc0 m lc0 n' nc1 m' lc1 na ca nb cb:Nat) (D D':Nds) (K K':Lks) (S T:Sts) (w:World) (hD:NdIn w NA n D) (hK:LkIn w LA m K) (hD':NdIn w NB n' D') (hK':LkIn w LB m' K') (hS:StIn w AA na S) (hT:StIn w AB nb T):
 Calls Tryz.prog 9 #[.agg #[.slice NA n nc0,.slice LA m lc0],.agg #[.slice NB n' nc1,.slice LB m' lc1],.slice AA na ca,.slice AB nb cb] w fun e w'=>e= .returned (.bool true)∧Below w.heap.size w w':=by
 have hal:Below w.heap.size w ((w.alloc (Obj.cells #[.slice NA n nc0,.slice LA m lc0] 52)).alloc (Obj.cells #[.slice NB n' nc1,.slice LB m' lc1] 52)):=((bR _ w).alloc (nl _) _).alloc (by simp) _
 have HB:=LH hal
 have HNX:Hid (Blk ((w.alloc (Obj.cells #[.slice NA n nc0,.slice LA m lc0] 52)).alloc (Obj.cells #[.slice NB n' nc1,.slice LB m' lc1] 52)) w.heap.size 52 #[.slice NA n nc0,.slice LA m lc0]):=(Blk.new _ _ _).alloc _
 have Eb:Hid (Blk ((w.alloc (Obj.cells #[.slice NA n nc0,.slice LA m lc0] 52)).alloc (Obj.cells #[.slice NB n' nc1,.slice LB m' lc1] 52)) (w.heap.size+1) 52 #[.slice NB n' nc1,.slice LB m' lc1]):=by have h:=Blk.new (w.alloc (Obj.cells #[.slice NA n nc0,.slice LA m lc0] 52)) 52 #[.slice NB n' nc1,.slice LB m' lc1];rw [zB0] at h;exact h
 have En:=LH (And.intro (zB3 hD' hal) (zB1 hK' hal))
 have HD:=LH hD
 have HK:=LH hK
 have HD2:=LH hD'
 have HK2:=LH hK'
 have HS:=LH hS
 have HT:=LH hT
 have SH:Hid (∀w',Below w.heap.size w w'→Calls Tryz.prog 24 #[.agg #[.slice NA n nc0,.slice LA m lc0]] w' fun e w''=>e= .returned (.bool (boolOf (hvyP D n K m)))∧Below w'.heap.size w' w''):=fun w' hb=>sc_heavy NA LA n nc0 m lc0 D K w' (zB3 HD.out hb) (zB1 HK.out hb)
 have SH2:Hid (∀w',Below w.heap.size w w'→Calls Tryz.prog 24 #[.agg #[.slice NB n' nc1,.slice LB m' lc1]] w' fun e w''=>e= .returned (.bool (boolOf (hvyP D' n' K' m')))∧Below w'.heap.size w' w''):=fun w' hb=>sc_heavy NB LB n' nc1 m' lc1 D' K' w' (zB3 HD2.out hb) (zB1 HK2.out hb)
 clear hD hK hD' hK' hS hT hal
 go_enter Tryz.func9,Tryz.ntmps9
 go_upto_region 1 with fail
 generalize (w.alloc (Obj.cells #[.slice NA n nc0,.slice LA m lc0] 52)).alloc (Obj.cells #[.slice NB n' nc1,.slice LB m' lc1] 52)=w2 at HB HNX En Eb⊢
 obtain ⟨d0,d1⟩:=blk2 HNX.out
 obtain ⟨e0_,e1_⟩:=blk2 Eb.out
 by_cases hh:hvyP D n K m
 ·rw [zA2 hh] at SH
  clear hh
  go_wp2_with (first
  |(go_at_call 10
    with_reducible refine (zV8 _).mono ?_
    rintro e w4 ⟨rfl,hb4⟩
    have HNX:=LH (HNX.out.call hb4)
    have HB:=LH (zA1 HB.out hb4)
    have En:=LH (And.intro (En.out.1.below (nl _) hb4) (En.out.2.below (nl _) hb4))
    have Eb:=LH (Eb.out.call hb4)
    clear d0 d1 e0_ e1_
    obtain ⟨d0,d1⟩:=blk2 HNX.out
    obtain ⟨e0_,e1_⟩:=blk2 Eb.out
    clear hb4)
  |(go_at_call 24
    with_reducible refine (SH.out _ HB.out).mono ?_
    rintro e w4 ⟨rfl,hb4⟩
    have HNX:=LH (HNX.out.call hb4)
    have HB:=LH (zA1 HB.out hb4)
    have En:=LH (And.intro (En.out.1.below (nl _) hb4) (En.out.2.below (nl _) hb4))
    have Eb:=LH (Eb.out.call hb4)
    clear d0 d1 e0_ e1_
    obtain ⟨d0,d1⟩:=blk2 HNX.out
    obtain ⟨e0_,e1_⟩:=blk2 Eb.out
    clear hb4))
  go_ret
  exact ⟨rfl,HB.out⟩
 rw [zA0 hh] at SH
 by_cases hh2:hvyP D' n' K' m'
 ·rw [zA2 hh2] at SH2
  clear hh hh2
  go_wp2_with (first
  |(go_at_call 10
    with_reducible refine (zV8 _).mono ?_
    rintro e w4 ⟨rfl,hb4⟩
    have HNX:=LH (HNX.out.call hb4)
    have HB:=LH (zA1 HB.out hb4)
    have En:=LH (And.intro (En.out.1.below (nl _) hb4) (En.out.2.below (nl _) hb4))
    have Eb:=LH (Eb.out.call hb4)
    clear d0 d1 e0_ e1_
    obtain ⟨d0,d1⟩:=blk2 HNX.out
    obtain ⟨e0_,e1_⟩:=blk2 Eb.out
    clear hb4)
  |(go_at_call 24
    with_reducible refine (SH.out _ HB.out).mono ?_
    rintro e w4 ⟨rfl,hb4⟩
    have HNX:=LH (HNX.out.call hb4)
    have HB:=LH (zA1 HB.out hb4)
    have En:=LH (And.intro (En.out.1.below (nl _) hb4) (En.out.2.below (nl _) hb4))
    have Eb:=LH (Eb.out.call hb4)
    clear d0 d1 e0_ e1_
    obtain ⟨d0,d1⟩:=blk2 HNX.out
    obtain ⟨e0_,e1_⟩:=blk2 Eb.out
    clear hb4)
  |(go_at_call 24
    with_reducible refine (SH2.out _ HB.out).mono ?_
    rintro e w4 ⟨rfl,hb4⟩
    have HNX:=LH (HNX.out.call hb4)
    have HB:=LH (zA1 HB.out hb4)
    have En:=LH (And.intro (En.out.1.below (nl _) hb4) (En.out.2.below (nl _) hb4))
    have Eb:=LH (Eb.out.call hb4)
    clear d0 d1 e0_ e1_
    obtain ⟨d0,d1⟩:=blk2 HNX.out
    obtain ⟨e0_,e1_⟩:=blk2 Eb.out
    clear hb4))
  go_ret
  exact ⟨rfl,HB.out⟩
 rw [zA0 hh2] at SH2
 by_cases q1:12<na
 ·have t1:decide ((12:Int)<(na:Int))=true:=dU (by omega)
  have t1':decide (12<na)=true:=dU q1
  clear hh hh2 q1
  go_wp2_with (first
  |(go_at_call 10
    with_reducible refine (zV8 _).mono ?_
    rintro e w4 ⟨rfl,hb4⟩
    have HNX:=LH (HNX.out.call hb4)
    have HB:=LH (zA1 HB.out hb4)
    have En:=LH (And.intro (En.out.1.below (nl _) hb4) (En.out.2.below (nl _) hb4))
    have Eb:=LH (Eb.out.call hb4)
    clear d0 d1 e0_ e1_
    obtain ⟨d0,d1⟩:=blk2 HNX.out
    obtain ⟨e0_,e1_⟩:=blk2 Eb.out
    clear hb4)
  |(go_at_call 24
    with_reducible refine (SH.out _ HB.out).mono ?_
    rintro e w4 ⟨rfl,hb4⟩
    have HNX:=LH (HNX.out.call hb4)
    have HB:=LH (zA1 HB.out hb4)
    have En:=LH (And.intro (En.out.1.below (nl _) hb4) (En.out.2.below (nl _) hb4))
    have Eb:=LH (Eb.out.call hb4)
    clear d0 d1 e0_ e1_
    obtain ⟨d0,d1⟩:=blk2 HNX.out
    obtain ⟨e0_,e1_⟩:=blk2 Eb.out
    clear hb4)
  |(go_at_call 24
    with_reducible refine (SH2.out _ HB.out).mono ?_
    rintro e w4 ⟨rfl,hb4⟩
    have HNX:=LH (HNX.out.call hb4)
    have HB:=LH (zA1 HB.out hb4)
    have En:=LH (And.intro (En.out.1.below (nl _) hb4) (En.out.2.below (nl _) hb4))
    have Eb:=LH (Eb.out.call hb4)
    clear d0 d1 e0_ e1_
    obtain ⟨d0,d1⟩:=blk2 HNX.out
    obtain ⟨e0_,e1_⟩:=blk2 Eb.out
    clear hb4))
  go_ret
  exact ⟨rfl,HB.out⟩
 have t1:decide ((12:Int)<(na:Int))=false:=dF (by omega)
 have t1':decide (12<na)=false:=dF q1
 by_cases q2:12<nb
 ·have t2:decide ((12:Int)<(nb:Int))=true:=dU (by omega)
  have t2':decide (12<nb)=true:=dU q2
  clear hh hh2 q1 q2
  go_wp2_with (first
  |(go_at_call 10
    with_reducible refine (zV8 _).mono ?_
    rintro e w4 ⟨rfl,hb4⟩
    have HNX:=LH (HNX.out.call hb4)
    have HB:=LH (zA1 HB.out hb4)
    have En:=LH (And.intro (En.out.1.below (nl _) hb4) (En.out.2.below (nl _) hb4))
    have Eb:=LH (Eb.out.call hb4)
    clear d0 d1 e0_ e1_
    obtain ⟨d0,d1⟩:=blk2 HNX.out
    obtain ⟨e0_,e1_⟩:=blk2 Eb.out
    clear hb4)
  |(go_at_call 24
    with_reducible refine (SH.out _ HB.out).mono ?_
    rintro e w4 ⟨rfl,hb4⟩
    have HNX:=LH (HNX.out.call hb4)
    have HB:=LH (zA1 HB.out hb4)
    have En:=LH (And.intro (En.out.1.below (nl _) hb4) (En.out.2.below (nl _) hb4))
    have Eb:=LH (Eb.out.call hb4)
    clear d0 d1 e0_ e1_
    obtain ⟨d0,d1⟩:=blk2 HNX.out
    obtain ⟨e0_,e1_⟩:=blk2 Eb.out
    clear hb4)
  |(go_at_call 24
    with_reducible refine (SH2.out _ HB.out).mono ?_
    rintro e w4 ⟨rfl,hb4⟩
    have HNX:=LH (HNX.out.call hb4)
    have HB:=LH (zA1 HB.out hb4)
    have En:=LH (And.intro (En.out.1.below (nl _) hb4) (En.out.2.below (nl _) hb4))
    have Eb:=LH (Eb.out.call hb4)
    clear d0 d1 e0_ e1_
    obtain ⟨d0,d1⟩:=blk2 HNX.out
    obtain ⟨e0_,e1_⟩:=blk2 Eb.out
    clear hb4))
  go_ret
  exact ⟨rfl,HB.out⟩
 have t2:decide ((12:Int)<(nb:Int))=false:=dF (by omega)
 have t2':decide (12<nb)=false:=dF q2
 obtain ⟨f1,hf1⟩:∃f,boolOf (∃j,j<na∧(fun j=>decide (12<S.VN j)) j=true)=f:=⟨_,rfl⟩
 obtain ⟨f2,hf2⟩:∃f,boolOf (∃j,j<nb∧(fun j=>decide (12<T.VN j)) j=true)=f:=⟨_,rfl⟩
 have hna:na≤12:=by omega
 have hnb:nb≤12:=by omega
 have SW1:Hid (∀w',Below w.heap.size w w'→Calls Tryz.prog 37 #[.slice AA na ca,.func (.func 36) #[] #[]] w' fun e w''=>e= .returned (.bool f1)∧Below w'.heap.size w' w''):=fun w' hb=>wide_has AA na ca S (fun j=>decide (12<S.VN j)) w' (by omega) (HS.out.below (nl _) hb) f1 (by rw [←hf1];exact zR1) (fun i _ w'' _=>p_wide S i w'')
 have SW2:Hid (∀w',Below w.heap.size w w'→Calls Tryz.prog 37 #[.slice AB nb cb,.func (.func 36) #[] #[]] w' fun e w''=>e= .returned (.bool f2)∧Below w'.heap.size w' w''):=fun w' hb=>wide_has AB nb cb T (fun j=>decide (12<T.VN j)) w' (by omega) (HT.out.below (nl _) hb) f2 (by rw [←hf2];exact zR1) (fun i _ w'' _=>p_wide T i w'')
 by_cases g1:f1=true
 ·subst g1
  clear hh hh2 q1 q2 hf1 hf2
  go_wp2_with (first
  |(go_at_call 10
    with_reducible refine (zV8 _).mono ?_
    rintro e w4 ⟨rfl,hb4⟩
    have HNX:=LH (HNX.out.call hb4)
    have HB:=LH (zA1 HB.out hb4)
    have En:=LH (And.intro (En.out.1.below (nl _) hb4) (En.out.2.below (nl _) hb4))
    have Eb:=LH (Eb.out.call hb4)
    clear d0 d1 e0_ e1_
    obtain ⟨d0,d1⟩:=blk2 HNX.out
    obtain ⟨e0_,e1_⟩:=blk2 Eb.out
    clear hb4)
  |(go_at_call 24
    with_reducible refine (SH.out _ HB.out).mono ?_
    rintro e w4 ⟨rfl,hb4⟩
    have HNX:=LH (HNX.out.call hb4)
    have HB:=LH (zA1 HB.out hb4)
    have En:=LH (And.intro (En.out.1.below (nl _) hb4) (En.out.2.below (nl _) hb4))
    have Eb:=LH (Eb.out.call hb4)
    clear d0 d1 e0_ e1_
    obtain ⟨d0,d1⟩:=blk2 HNX.out
    obtain ⟨e0_,e1_⟩:=blk2 Eb.out
    clear hb4)
  |(go_at_call 24
    with_reducible refine (SH2.out _ HB.out).mono ?_
    rintro e w4 ⟨rfl,hb4⟩
    have HNX:=LH (HNX.out.call hb4)
    have HB:=LH (zA1 HB.out hb4)
    have En:=LH (And.intro (En.out.1.below (nl _) hb4) (En.out.2.below (nl _) hb4))
    have Eb:=LH (Eb.out.call hb4)
    clear d0 d1 e0_ e1_
    obtain ⟨d0,d1⟩:=blk2 HNX.out
    obtain ⟨e0_,e1_⟩:=blk2 Eb.out
    clear hb4)
  |(go_at_call 37
    with_reducible refine (SW1.out _ HB.out).mono ?_
    rintro e w4 ⟨rfl,hb4⟩
    have HNX:=LH (HNX.out.call hb4)
    have HB:=LH (zA1 HB.out hb4)
    have En:=LH (And.intro (En.out.1.below (nl _) hb4) (En.out.2.below (nl _) hb4))
    have Eb:=LH (Eb.out.call hb4)
    clear d0 d1 e0_ e1_
    obtain ⟨d0,d1⟩:=blk2 HNX.out
    obtain ⟨e0_,e1_⟩:=blk2 Eb.out
    clear hb4))
  go_ret
  exact ⟨rfl,HB.out⟩
 obtain rfl:f1=false:=by cases f1 with |false=>rfl |true=>exact absurd rfl g1
 by_cases g2:f2=true
 ·subst g2
  clear hh hh2 q1 q2 hf1 hf2 g1
  go_wp2_with (first
  |(go_at_call 10
    with_reducible refine (zV8 _).mono ?_
    rintro e w4 ⟨rfl,hb4⟩
    have HNX:=LH (HNX.out.call hb4)
    have HB:=LH (zA1 HB.out hb4)
    have En:=LH (And.intro (En.out.1.below (nl _) hb4) (En.out.2.below (nl _) hb4))
    have Eb:=LH (Eb.out.call hb4)
    clear d0 d1 e0_ e1_
    obtain ⟨d0,d1⟩:=blk2 HNX.out
    obtain ⟨e0_,e1_⟩:=blk2 Eb.out
    clear hb4)
  |(go_at_call 24
    with_reducible refine (SH.out _ HB.out).mono ?_
    rintro e w4 ⟨rfl,hb4⟩
    have HNX:=LH (HNX.out.call hb4)
    have HB:=LH (zA1 HB.out hb4)
    have En:=LH (And.intro (En.out.1.below (nl _) hb4) (En.out.2.below (nl _) hb4))
    have Eb:=LH (Eb.out.call hb4)
    clear d0 d1 e0_ e1_
    obtain ⟨d0,d1⟩:=blk2 HNX.out
    obtain ⟨e0_,e1_⟩:=blk2 Eb.out
    clear hb4)
  |(go_at_call 24
    with_reducible refine (SH2.out _ HB.out).mono ?_
    rintro e w4 ⟨rfl,hb4⟩
    have HNX:=LH (HNX.out.call hb4)
    have HB:=LH (zA1 HB.out hb4)
    have En:=LH (And.intro (En.out.1.below (nl _) hb4) (En.out.2.below (nl _) hb4))
    have Eb:=LH (Eb.out.call hb4)
    clear d0 d1 e0_ e1_
    obtain ⟨d0,d1⟩:=blk2 HNX.out
    obtain ⟨e0_,e1_⟩:=blk2 Eb.out
    clear hb4)
  |(go_at_call 37
    with_reducible refine (SW1.out _ HB.out).mono ?_
    rintro e w4 ⟨rfl,hb4⟩
    have HNX:=LH (HNX.out.call hb4)
    have HB:=LH (zA1 HB.out hb4)
    have En:=LH (And.intro (En.out.1.below (nl _) hb4) (En.out.2.below (nl _) hb4))
    have Eb:=LH (Eb.out.call hb4)
    clear d0 d1 e0_ e1_
    obtain ⟨d0,d1⟩:=blk2 HNX.out
    obtain ⟨e0_,e1_⟩:=blk2 Eb.out
    clear hb4)
  |(go_at_call 37
    with_reducible refine (SW2.out _ HB.out).mono ?_
    rintro e w4 ⟨rfl,hb4⟩
    have HNX:=LH (HNX.out.call hb4)
    have HB:=LH (zA1 HB.out hb4)
    have En:=LH (And.intro (En.out.1.below (nl _) hb4) (En.out.2.below (nl _) hb4))
    have Eb:=LH (Eb.out.call hb4)
    clear d0 d1 e0_ e1_
    obtain ⟨d0,d1⟩:=blk2 HNX.out
    obtain ⟨e0_,e1_⟩:=blk2 Eb.out
    clear hb4))
  go_ret
  exact ⟨rfl,HB.out⟩
 obtain rfl:f2=false:=by cases f2 with |false=>rfl |true=>exact absurd rfl g2
 have hv1:∀k,k<na→S.VN k≤12:=fun k hk=>by
  by_cases q:12<S.VN k
  ·have h:=hf1
   rw [zA2 ⟨k,hk,dU q⟩] at h
   exact absurd h (by simp)
  ·omega
 have hv2:∀k,k<nb→T.VN k≤12:=fun k hk=>by
  by_cases q:12<T.VN k
  ·have h:=hf2
   rw [zA2 ⟨k,hk,dU q⟩] at h
   exact absurd h (by simp)
  ·omega
 have hzz:=hvy_zz hh
 have hzz2:=hvy_zz hh2
 obtain ⟨er,her⟩:∃e,cmE S T na nb=e:=⟨_,rfl⟩
 obtain ⟨ML,hML⟩:∃l,cmL S T na nb=l:=⟨_,rfl⟩
 obtain ⟨km,hkm⟩:∃k,ML.length=k:=⟨_,rfl⟩
 have hl3:ML.length≤3000:=by
  rw [←hML]
  refine cmL_len ?_
  by_cases h0:na=0
  ·exact .inr h0
  ·exact .inl (hv1 0 (by omega))
 have SC1:Hid (∀w',Below w.heap.size w w'→Calls Tryz.prog 38 #[.slice AA na ca,.slice AB nb cb] w' (CmA ML km er w')):=fun w' hb=>(sc_Compare AA AB na ca nb cb S T w' hna (HS.out.below (nl _) hb) (HT.out.below (nl _) hb) hv1 hv2).mono fun e w'' h=>by
  rw [her,hML] at h
  rw [←hkm]
  exact cm_A h hl3
 have SC2:Hid (∀w',Below w.heap.size w w'→Calls Tryz.prog 39 #[.slice AA na ca,.slice AB nb cb] w' (CmA ML km er w')):=fun w' hb=>(r_Compare AA AB na ca nb cb S T w' hna (HS.out.below (nl _) hb) (HT.out.below (nl _) hb) hv1 hv2).mono fun e w'' h=>by
  rw [her,hML] at h
  rw [←hkm]
  exact cm_A h hl3
 have SV:Hid (∀w',Below w.heap.size w w'→Calls Tryz.prog 28 #[.agg #[.slice NA n nc0,.slice LA m lc0]] w' fun e w''=>e= .returned (.bool (boolOf (netP D n K m)))∧Below w'.heap.size w' w''):=fun w' hb=>zD2 NA LA n nc0 m lc0 D K hzz.sz w' (zB3 HD.out hb) (zB1 HK.out hb)
 have SV2:Hid (∀w',Below w.heap.size w w'→Calls Tryz.prog 28 #[.agg #[.slice NB n' nc1,.slice LB m' lc1]] w' fun e w''=>e= .returned (.bool (boolOf (netP D' n' K' m')))∧Below w'.heap.size w' w''):=fun w' hb=>zD2 NB LB n' nc1 m' lc1 D' K' hzz2.sz w' (zB3 HD2.out hb) (zB1 HK2.out hb)
 have hDF:∃(l:List Chr) (k:Nat) (g:Int),k≤2000∧((netP D n K m∧netP D' n' K' m'∧g=0∧l=dfF (recN D n) (recL K m) (recN D' n') (recL K' m'))∨(¬(netP D n K m∧netP D' n' K' m')∧g=1∧l=[]∧k=0))∧l.length=k∧∀w',Below w.heap.size w w'→Calls Tryz.prog 29 #[.agg #[.slice NA n nc0,.slice LA m lc0],.agg #[.slice NB n' nc1,.slice LB m' lc1]] w' (DfB l k g w'):=by
  by_cases hp:netP D n K m∧netP D' n' K' m'
  ·have hb:(dfF (recN D n) (recL K m) (recN D' n') (recL K' m')).length≤2000:=by
        have a1:=hvy_not hh
        have a2:=hvy_not hh2
        have q1:=dfF_len (recN D n) (recL K m) (recN D' n') (recL K' m')
        rw [zA3,zA3,zA4,zA4] at q1
        omega
   refine ⟨_,_,0,hb,.inl ⟨hp.1,hp.2,rfl,rfl⟩,rfl,fun w' hw=>(sc_Diff NA LA NB LB n nc0 m lc0 n' nc1 m' lc1 D D' K K' w' (VS.of hp.1) (VS.of hp.2) (zB3 HD.out hw) (zB1 HK.out hw) (zB3 HD2.out hw) (zB1 HK2.out hw)).mono fun e w'' h=>dfB_of (df_A h rfl (by omega))⟩
  ·exact ⟨[],0,1,by omega,.inr ⟨hp,rfl,rfl,rfl⟩,rfl,fun w' hw=>(sc_Diff_bad NA LA NB LB n nc0 m lc0 n' nc1 m' lc1 D D' K K' w' hzz hzz2 hp (zB3 HD.out hw) (zB1 HK.out hw) (zB3 HD2.out hw) (zB1 HK2.out hw)).mono fun e w'' h=>dfB_no h.1 h.2⟩
 obtain ⟨dl,dk,dg,hdk,hdc,hdl,hds⟩:=hDF
 have SD:=LH hds
 have HDC:=LH hdc
 have HDK:=LH (And.intro hdk hdl)
 have te:(er !=er)=false:=by simp
 clear hh hh2 q1 q2 g1 g2 hf1 hf2 hv1 hv2 hna hnb her hML hkm hl3 hzz hzz2 hdk hdc hdl hds
 go_upto_region 6 with (first
  |(go_at_call 10
    with_reducible refine (zV8 _).mono ?_
    rintro e w4 ⟨rfl,hb4⟩
    have HNX:=LH (HNX.out.call hb4)
    have HB:=LH (zA1 HB.out hb4)
    have En:=LH (And.intro (En.out.1.below (nl _) hb4) (En.out.2.below (nl _) hb4))
    have Eb:=LH (Eb.out.call hb4)
    clear d0 d1 e0_ e1_
    obtain ⟨d0,d1⟩:=blk2 HNX.out
    obtain ⟨e0_,e1_⟩:=blk2 Eb.out
    clear hb4)
  |(go_at_call 24
    with_reducible refine (SH.out _ HB.out).mono ?_
    rintro e w4 ⟨rfl,hb4⟩
    have HNX:=LH (HNX.out.call hb4)
    have HB:=LH (zA1 HB.out hb4)
    have En:=LH (And.intro (En.out.1.below (nl _) hb4) (En.out.2.below (nl _) hb4))
    have Eb:=LH (Eb.out.call hb4)
    clear d0 d1 e0_ e1_
    obtain ⟨d0,d1⟩:=blk2 HNX.out
    obtain ⟨e0_,e1_⟩:=blk2 Eb.out
    clear hb4)
  |(go_at_call 24
    with_reducible refine (SH2.out _ HB.out).mono ?_
    rintro e w4 ⟨rfl,hb4⟩
    have HNX:=LH (HNX.out.call hb4)
    have HB:=LH (zA1 HB.out hb4)
    have En:=LH (And.intro (En.out.1.below (nl _) hb4) (En.out.2.below (nl _) hb4))
    have Eb:=LH (Eb.out.call hb4)
    clear d0 d1 e0_ e1_
    obtain ⟨d0,d1⟩:=blk2 HNX.out
    obtain ⟨e0_,e1_⟩:=blk2 Eb.out
    clear hb4)
  |(go_at_call 37
    with_reducible refine (SW1.out _ HB.out).mono ?_
    rintro e w4 ⟨rfl,hb4⟩
    have HNX:=LH (HNX.out.call hb4)
    have HB:=LH (zA1 HB.out hb4)
    have En:=LH (And.intro (En.out.1.below (nl _) hb4) (En.out.2.below (nl _) hb4))
    have Eb:=LH (Eb.out.call hb4)
    clear d0 d1 e0_ e1_
    obtain ⟨d0,d1⟩:=blk2 HNX.out
    obtain ⟨e0_,e1_⟩:=blk2 Eb.out
    clear hb4)
  |(go_at_call 37
    with_reducible refine (SW2.out _ HB.out).mono ?_
    rintro e w4 ⟨rfl,hb4⟩
    have HNX:=LH (HNX.out.call hb4)
    have HB:=LH (zA1 HB.out hb4)
    have En:=LH (And.intro (En.out.1.below (nl _) hb4) (En.out.2.below (nl _) hb4))
    have Eb:=LH (Eb.out.call hb4)
    clear d0 d1 e0_ e1_
    obtain ⟨d0,d1⟩:=blk2 HNX.out
    obtain ⟨e0_,e1_⟩:=blk2 Eb.out
    clear hb4))
 clear SH SH2 SW1 SW2 t1 t1' t2 t2'
 go_upto_region 7 with (first
  |(go_at_call 38
    with_reducible refine (SC1.out _ HB.out).mono ?_
    rintro e w4 ⟨PA,Pc,rfl,h1,hb4⟩
    have Pn:=LH h1
    have HNX:=LH (HNX.out.call hb4)
    have HB:=LH (zA1 HB.out hb4)
    have En:=LH (And.intro (En.out.1.below (nl _) hb4) (En.out.2.below (nl _) hb4))
    have Eb:=LH (Eb.out.call hb4)
    clear d0 d1 e0_ e1_
    obtain ⟨d0,d1⟩:=blk2 HNX.out
    obtain ⟨e0_,e1_⟩:=blk2 Eb.out
    clear hb4 h1))
 go_upto_region 8 with (first
  |(go_at_call 39
    with_reducible refine (SC2.out _ HB.out).mono ?_
    rintro e w4 ⟨QA,Qc,rfl,h1,hb4⟩
    have Qn:=LH h1
    have HNX:=LH (HNX.out.call hb4)
    have HB:=LH (zA1 HB.out hb4)
    have En:=LH (And.intro (En.out.1.below (nl _) hb4) (En.out.2.below (nl _) hb4))
    have Eb:=LH (Eb.out.call hb4)
    have Pn:=LH (Pn.out.below (nl _) hb4)
    clear d0 d1 e0_ e1_
    obtain ⟨d0,d1⟩:=blk2 HNX.out
    obtain ⟨e0_,e1_⟩:=blk2 Eb.out
    clear hb4 h1))
 go_upto_region 9 with (first
  |(go_at_call 29
    with_reducible refine (SD.out _ HB.out).mono ?_
    rintro e w4 ⟨FA,Fc,FK,FX,FY,rfl,h1,r1,hb4⟩
    have Fr:=LH r1
    have Fn:=LH h1
    have HNX:=LH (HNX.out.call hb4)
    have HB:=LH (zA1 HB.out hb4)
    have En:=LH (And.intro (En.out.1.below (nl _) hb4) (En.out.2.below (nl _) hb4))
    have Eb:=LH (Eb.out.call hb4)
    have Pn:=LH (Pn.out.below (nl _) hb4)
    have Qn:=LH (Qn.out.below (nl _) hb4)
    clear d0 d1 e0_ e1_
    obtain ⟨d0,d1⟩:=blk2 HNX.out
    obtain ⟨e0_,e1_⟩:=blk2 Eb.out
    clear hb4 r1 h1))
 have SE:Hid (Calls Tryz.prog 40 #[.slice PA km Pc,.slice QA km Qc] w4 fun e w''=>e= .returned (.bool true)∧Below w4.heap.size w4 w''):=by
  have h:=sp_equal PA QA km km Pc Qc (kX ML) (kY ML) (kX ML) (kY ML) w4 Pn.out Qn.out
  rw [zA2 (show zS9 km (kX ML) (kY ML) km (kX ML) (kY ML) from ⟨rfl,fun k _=>⟨rfl,rfl⟩⟩)] at h
  exact h
 go_upto_region 11 with (first
  |(go_at_call 40
    with_reducible refine (SE.out).mono ?_
    rintro e w4 ⟨rfl,hb4⟩
    have HNX:=LH (HNX.out.call hb4)
    have HB:=LH (zA1 HB.out hb4)
    have En:=LH (And.intro (En.out.1.below (nl _) hb4) (En.out.2.below (nl _) hb4))
    have Eb:=LH (Eb.out.call hb4)
    have Pn:=LH (Pn.out.below (nl _) hb4)
    have Qn:=LH (Qn.out.below (nl _) hb4)
    have Fn:=LH (Fn.out.below (nl _) hb4)
    clear d0 d1 e0_ e1_
    obtain ⟨d0,d1⟩:=blk2 HNX.out
    obtain ⟨e0_,e1_⟩:=blk2 Eb.out
    clear hb4))
 clear SC1 SC2 SD SE
 rcases HDC.out with ⟨p1,p2,g0,hl⟩|⟨p1,g0,hl,hk0⟩
 ·rw [zA2 p1] at SV
  rw [zA2 p2] at SV2
  subst g0
  subst hl
  have HVS:=LH (VS.of p1)
  have HVS2:=LH (VS.of p2)
  have SR:Hid (∀w',Below w.heap.size w w'→Calls Tryz.prog 41 #[.agg #[.slice NA n nc0,.slice LA m lc0],.agg #[.slice NB n' nc1,.slice LB m' lc1]] w' (DfC (dfF (recN D n) (recL K m) (recN D' n') (recL K' m')) dk w')):=fun w' hb=>(r_Diff NA LA NB LB n nc0 m lc0 n' nc1 m' lc1 D D' K K' w' HVS.out HVS2.out (zB3 HD.out hb) (zB1 HK.out hb) (zB3 HD2.out hb) (zB1 HK2.out hb)).mono fun e w'' h=>df_C h HDK.out.2 (by have:=HDK.out.1;omega)
  have SQ:Hid (∀(GA:Option Addr) (Gc:Nat) (GK:Nat→Int) (GX:Nds) (GY:Lks) (w':World),ChsIn w' FA dk FK FX FY→ChsIn w' GA dk GK GX GY→recC GK GX GY dk=dfF (recN D n) (recL K m) (recN D' n') (recL K' m')→Calls Tryz.prog 15 #[.slice FA dk Fc,.slice GA dk Gc,.func (.func 16) #[] #[]] w' fun e w''=>e= .returned (.bool true)∧Below w'.heap.size w' w''):=fun GA Gc GK GX GY w' h1 h2 h3=>ch_equal FA GA dk Fc Gc FK GK FX GX FY GY w' HDK.out.1 h1 h2 (Fr.out.trans h3.symm)
  clear p1 p2
  go_wp2_with (first
   |(go_at_call 28
     with_reducible refine (SV.out _ HB.out).mono ?_
     rintro e w4 ⟨rfl,hb4⟩
     have HNX:=LH (HNX.out.call hb4)
     have HB:=LH (zA1 HB.out hb4)
     have En:=LH (And.intro (En.out.1.below (nl _) hb4) (En.out.2.below (nl _) hb4))
     have Eb:=LH (Eb.out.call hb4)
     have Pn:=LH (Pn.out.below (nl _) hb4)
     have Qn:=LH (Qn.out.below (nl _) hb4)
     have Fn:=LH (Fn.out.below (nl _) hb4)
     clear d0 d1 e0_ e1_
     obtain ⟨d0,d1⟩:=blk2 HNX.out
     obtain ⟨e0_,e1_⟩:=blk2 Eb.out
     clear hb4)
   |(go_at_call 28
     with_reducible refine (SV2.out _ HB.out).mono ?_
     rintro e w4 ⟨rfl,hb4⟩
     have HNX:=LH (HNX.out.call hb4)
     have HB:=LH (zA1 HB.out hb4)
     have En:=LH (And.intro (En.out.1.below (nl _) hb4) (En.out.2.below (nl _) hb4))
     have Eb:=LH (Eb.out.call hb4)
     have Pn:=LH (Pn.out.below (nl _) hb4)
     have Qn:=LH (Qn.out.below (nl _) hb4)
     have Fn:=LH (Fn.out.below (nl _) hb4)
     clear d0 d1 e0_ e1_
     obtain ⟨d0,d1⟩:=blk2 HNX.out
     obtain ⟨e0_,e1_⟩:=blk2 Eb.out
     clear hb4)
   |(go_at_call 41
     with_reducible refine (SR.out _ HB.out).mono ?_
     rintro e w4 ⟨GA,Gc,GK,GX,GY,rfl,h1,r1,hb4⟩
     have Gr:=LH r1
     have Gn:=LH h1
     have HNX:=LH (HNX.out.call hb4)
     have HB:=LH (zA1 HB.out hb4)
     have En:=LH (And.intro (En.out.1.below (nl _) hb4) (En.out.2.below (nl _) hb4))
     have Eb:=LH (Eb.out.call hb4)
     have Pn:=LH (Pn.out.below (nl _) hb4)
     have Qn:=LH (Qn.out.below (nl _) hb4)
     have Fn:=LH (Fn.out.below (nl _) hb4)
     clear d0 d1 e0_ e1_
     obtain ⟨d0,d1⟩:=blk2 HNX.out
     obtain ⟨e0_,e1_⟩:=blk2 Eb.out
     clear hb4 r1 h1)
   |(go_at_call 15
     with_reducible refine (SQ.out _ _ _ _ _ _ Fn.out Gn.out Gr.out).mono ?_
     rintro e w4 ⟨rfl,hb4⟩
     have HNX:=LH (HNX.out.call hb4)
     have HB:=LH (zA1 HB.out hb4)
     have En:=LH (And.intro (En.out.1.below (nl _) hb4) (En.out.2.below (nl _) hb4))
     have Eb:=LH (Eb.out.call hb4)
     have Pn:=LH (Pn.out.below (nl _) hb4)
     have Qn:=LH (Qn.out.below (nl _) hb4)
     have Fn:=LH (Fn.out.below (nl _) hb4)
     clear d0 d1 e0_ e1_
     obtain ⟨d0,d1⟩:=blk2 HNX.out
     obtain ⟨e0_,e1_⟩:=blk2 Eb.out
     clear hb4))
  go_ret
  exact ⟨rfl,HB.out⟩
 ·subst g0
  subst hk0
  obtain ⟨v1,hv1⟩:∃v,boolOf (netP D n K m)=v:=⟨_,rfl⟩
  obtain ⟨v2,hv2⟩:∃v,boolOf (netP D' n' K' m')=v:=⟨_,rfl⟩
  rw [hv1] at SV
  rw [hv2] at SV2
  have hcase:v1=false∨(v1=true∧v2=false):=by
   by_cases h1:netP D n K m
   ·refine .inr ⟨by rw [←hv1];exact zA2 h1,?_⟩
    rw [←hv2]
    exact zA0 fun h2=>p1 ⟨h1,h2⟩
   ·exact .inl (by rw [←hv1];exact zA0 h1)
  clear p1 hv1 hv2 hl
  rcases hcase with rfl |⟨rfl,rfl⟩
  all_goals
   go_wp2_with (first
        |(go_at_call 28
          with_reducible refine (SV.out _ HB.out).mono ?_
          rintro e w4 ⟨rfl,hb4⟩
          have HNX:=LH (HNX.out.call hb4)
          have HB:=LH (zA1 HB.out hb4)
          have En:=LH (And.intro (En.out.1.below (nl _) hb4) (En.out.2.below (nl _) hb4))
          have Eb:=LH (Eb.out.call hb4)
          have Pn:=LH (Pn.out.below (nl _) hb4)
          have Qn:=LH (Qn.out.below (nl _) hb4)
          have Fn:=LH (Fn.out.below (nl _) hb4)
          clear d0 d1 e0_ e1_
          obtain ⟨d0,d1⟩:=blk2 HNX.out
          obtain ⟨e0_,e1_⟩:=blk2 Eb.out
          clear hb4)
        |(go_at_call 28
          with_reducible refine (SV2.out _ HB.out).mono ?_
          rintro e w4 ⟨rfl,hb4⟩
          have HNX:=LH (HNX.out.call hb4)
          have HB:=LH (zA1 HB.out hb4)
          have En:=LH (And.intro (En.out.1.below (nl _) hb4) (En.out.2.below (nl _) hb4))
          have Eb:=LH (Eb.out.call hb4)
          have Pn:=LH (Pn.out.below (nl _) hb4)
          have Qn:=LH (Qn.out.below (nl _) hb4)
          have Fn:=LH (Fn.out.below (nl _) hb4)
          clear d0 d1 e0_ e1_
          obtain ⟨d0,d1⟩:=blk2 HNX.out
          obtain ⟨e0_,e1_⟩:=blk2 Eb.out
          clear hb4))
   go_ret
   exact ⟨rfl,HB.out⟩
end Go.Proofs.YtchakniaoeodmaaGreatDoor

/- Merged texts of these proofs: OpenL, OpenC. -/
import Derived.Test.YtchakniaoeodmaaGreatDoorStay
import Derived.Test.YtchakniaoeodmaaGreatDoorMgP
import Derived.Deep.Strs
namespace Go.Proofs.YtchakniaoeodmaaGreatDoor
open Go.RowKit Go.WideShapes Go.ChangeShapes Go.ChangeAt Go.Deep Go.Joins
set_option linter.unusedVariables false
set_option linter.unusedSimpArgs false
def cInt (w:World) (a:Addr):Int:=match w.cell? a with
 |some (.int _ z)=>z
 |_=>0
def cStr (w:World) (a:Addr):ByteArray:=match w.cell? a with
 |some (.string z)=>z
 |_=>ByteArray.empty
def cBool (w:World) (a:Addr):Bool:=match w.cell? a with
 |some (.bool z)=>z
 |_=>false
def cSl (W:World) (a:Addr):Option Addr×Nat×Nat:=match W.cell? a with
 |some (.slice A n c)=>(A,n,c)
 |_=>(none,0,0)
theorem zG0 {w:World} {a:Addr} {k:IntKind} {z:Int} (h:w.cell? a=some (.int k z)):cInt w a=z:=by unfold cInt;rw [h]
theorem zV7 {w:World} {a:Addr} {z:ByteArray} (h:w.cell? a=some (.string z)):cStr w a=z:=by unfold cStr;rw [h]
theorem cBool_of {w:World} {a:Addr} {z:Bool} (h:w.cell? a=some (.bool z)):cBool w a=z:=by unfold cBool;rw [h]
theorem cSl_of {w:World} {a:Addr} {A:Option Addr} {n c:Nat} (h:w.cell? a=some (.slice A n c)):cSl w a=(A,n,c):=by unfold cSl;rw [h]
open Classical in
noncomputable def tabOf (W:World) (A:Option Addr) (n:Nat):(Nat→Int)×(Nat→Int):=if h:∃p:(Nat→Int)×(Nat→Int),TabIn W A n p.1 p.2 then h.choose else (fun _=>0,fun _=>0)
theorem tabOf_in {W:World} {A:Option Addr} {n:Nat} {X Y:Nat→Int} (h:TabIn W A n X Y):TabIn W A n (tabOf W A n).1 (tabOf W A n).2:=by
 unfold tabOf
 rw [dif_pos ⟨(X,Y),h⟩]
 exact (⟨(X,Y),h⟩:∃p:(Nat→Int)×(Nat→Int),TabIn W A n p.1 p.2).choose_spec
open Classical in
theorem addr_at {W:World} {a:Addr} {v:Value} (hc:W.cell? a=some v):∃b off,a=⟨b,off,none⟩∧b<W.heap.size∧∀i,(⟨b,off,none⟩:Addr).add i=⟨b,off+i,none⟩:=by
 have hlt:=World.block_lt_of_cell? W _ hc
 obtain ⟨b,off,sp⟩:=a
 have hsp:sp=none:=by
  cases sp with
  |none=>rfl
  |some q=>simp [World.cell?] at hc;split at hc<;> simp at hc
 subst hsp
 refine ⟨b,off,rfl,hlt,fun i=>?_⟩
 unfold Addr.add
 by_cases hi:i=0
 ·simp [hi]
 ·simp [hi]
theorem cS:Tryz.prog.cellsOf 9=1:=by kernel_rfl
theorem cI:Tryz.prog.cellsOf 3=1:=by kernel_rfl
theorem cB:Tryz.prog.cellsOf 4=1:=by kernel_rfl
theorem cT:Tryz.prog.cellsOf 28=1:=by kernel_rfl
theorem cP:Tryz.prog.cellsOf 26=2:=by kernel_rfl
section
variable {H:Type} {enc:TypeId×Value→H} {W:World}
set_option maxRecDepth 100000 in
theorem zN7 {fuel:Nat} {v:Value} {x:DataW H×List MemPlace} (hf:DataW.trod enc Tryz.prog W 0 (fun _=>true) true fuel 28 [v]=some x):
 ∃(A:Option Addr) (n c:Nat) (X Y:Nat→Int),v= .slice A n c∧TabIn W A n X Y:=by
 rcases open_slice Tryz.underlying28 hf with ⟨hcs,_⟩|⟨a,len,cap,m,n,D,Pl,hcs,hb,hl,hm,hmm,hx,hi⟩
 ·obtain rfl:v= .slice none 0 0:=by simpa using hcs
  exact ⟨none,0,0,fun _=>0,fun _=>0,rfl,by omega,.inl rfl⟩
 ·obtain rfl:v= .slice (some a) len cap:=by simpa using hcs
  unfold maxLen at hm
  simp only [if_true] at hmm
  have hC:Tryz.prog.cellsOf 141=2:=by kernel_rfl
  refine ⟨some a,len,cap,fun i=>cInt W (a.add (i*2)),fun i=>cInt W (a.add (i*2+1)),rfl,by omega,?_⟩
  have cells:∀i,i<len→W.cell? (a.add (i*2))=some (.int .i64 (cInt W (a.add (i*2))))∧W.cell? (a.add (i*2+1))=some (.int .i64 (cInt W (a.add (i*2+1)))):=by
   intro i him
   obtain ⟨cs',hc,ht'⟩:=hi i (by omega)
   rw [hC] at hc
   obtain ⟨_,hcl,hat⟩:=World.cells?_some hc
   obtain ⟨ys,m',_,_,hl',hyl,hf'⟩:=DataW.trod_struct Tryz.underlying141 ht'
   have hyl2:ys.length=2:=hyl
   have h0:=hat 0 (by omega)
   have h1:=hat 1 (by omega)
   match cs',hcl with
   |[u0,u1],_=>
    match ys,hyl2 with
    |[y0,y1],_=>
     have f0:DataW.trod enc Tryz.prog W 0 (fun _=>true) true m' 3 [u0]=some y0:=by simpa [cI] using hf' 0 _ rfl
     have f1:DataW.trod enc Tryz.prog W 0 (fun _=>true) true m' 3 [u1]=some y1:=by simpa [cI] using hf' 1 _ rfl
     obtain ⟨z0,e0,_,_⟩:=DataW.trod_int Tryz.underlying3 f0
     obtain ⟨z1,e1,_,_⟩:=DataW.trod_int Tryz.underlying3 f1
     simp only [List.cons.injEq,and_true] at e0 e1
     subst e0 e1
     rw [Go.Deep.add_add] at h0 h1
     have h0:W.cell? (a.add (i*2))=some (.int .i64 z0):=h0
     have h1:W.cell? (a.add (i*2+1))=some (.int .i64 z1):=h1
     rw [zG0 h0,zG0 h1]
     exact ⟨h0,h1⟩
  rcases Nat.eq_zero_or_pos len with h0 |h0
  ·exact .inl h0
  ·right
   have hc:=(cells 0 h0).1
   rw [Nat.zero_mul] at hc
   have ha0:a.add 0=a:=by unfold Addr.add;simp
   rw [ha0] at hc
   obtain ⟨b,off,rfl,hlt,e⟩:=addr_at hc
   refine ⟨b,off,rfl,hlt,fun k hk=>?_⟩
   obtain ⟨c1,c2⟩:=cells k hk
   refine ⟨?_,?_⟩
   ·rw [←e];exact c1
   ·rw [Nat.add_assoc,←e];exact c2
set_option maxRecDepth 100000 in
theorem zR6 {fuel:Nat} {u0 u1:Value} {x:DataW H×List MemPlace} (hf:DataW.trod enc Tryz.prog W 0 (fun _=>true) true fuel 26 [u0,u1]=some x):
 ∃z0 z1:Int,u0= .int .i64 z0∧u1= .int .i64 z1:=by
 obtain ⟨ys,m',_,_,hl',hyl,hf'⟩:=DataW.trod_struct Tryz.underlying26 hf
 have hyl2:ys.length=2:=hyl
 match ys,hyl2 with
 |[y0,y1],_=>
  have f0:DataW.trod enc Tryz.prog W 0 (fun _=>true) true m' 3 [u0]=some y0:=by simpa [cI] using hf' 0 _ rfl
  have f1:DataW.trod enc Tryz.prog W 0 (fun _=>true) true m' 3 [u1]=some y1:=by simpa [cI] using hf' 1 _ rfl
  obtain ⟨z0,e0,_,_⟩:=DataW.trod_int Tryz.underlying3 f0
  obtain ⟨z1,e1,_,_⟩:=DataW.trod_int Tryz.underlying3 f1
  simp only [List.cons.injEq,and_true] at e0 e1
  exact ⟨z0,z1,e0,e1⟩
set_option maxRecDepth 100000 in
theorem zL6 {fuel:Nat} {vs:List Value} {y:DataW H×List MemPlace} (h:DataW.trod enc Tryz.prog W 0 (fun _=>true) true fuel 30 vs=some y):
 ∃(Nm:ByteArray) (Kd:Int) (Ax Ay:Int) (Iv:Int) (Gd:Int) (SA:Option Addr) (SN SC:Nat) (SX SY:Nat→Int) (Pt:Bool) (Rs:Int),vs=[.string Nm,.int .i64 Kd,.int .i64 Ax,.int .i64 Ay,.int .i64 Iv,.int .i64 Gd,.slice SA SN SC,.bool Pt,.int .i64 Rs]∧TabIn W SA SN SX SY:=by
 obtain ⟨ys,m,_,_,hl,hyl,hf⟩:=DataW.trod_struct Tryz.underlying30 h
 have hl9:vs.length=9:=hl.trans (by kernel_rfl)
 have hyl8:ys.length=8:=hyl
 match vs,hl9 with
 |[v0,v1,v2,v3,v4,v5,v6,v7,v8],_=>
 match ys,hyl8 with
 |[y0,y1,y2,y3,y4,y5,y6,y7],_=>
  have f0:DataW.trod enc Tryz.prog W 0 (fun _=>true) true m 9 [v0]=some y0:=by simpa [cS,cI,cB,cT,cP] using hf 0 _ rfl
  obtain ⟨Nm,e0,_,_⟩:=DataW.trod_string Tryz.underlying9 f0
  have f1:DataW.trod enc Tryz.prog W 0 (fun _=>true) true m 3 [v1]=some y1:=by simpa [cS,cI,cB,cT,cP] using hf 1 _ rfl
  obtain ⟨Kd,e1,_,_⟩:=DataW.trod_int Tryz.underlying3 f1
  have f2:DataW.trod enc Tryz.prog W 0 (fun _=>true) true m 26 [v2,v3]=some y2:=by simpa [cS,cI,cB,cT,cP] using hf 2 _ rfl
  obtain ⟨Ax,Ay,e2⟩:=zR6 f2
  have f3:DataW.trod enc Tryz.prog W 0 (fun _=>true) true m 3 [v4]=some y3:=by simpa [cS,cI,cB,cT,cP] using hf 3 _ rfl
  obtain ⟨Iv,e3,_,_⟩:=DataW.trod_int Tryz.underlying3 f3
  have f4:DataW.trod enc Tryz.prog W 0 (fun _=>true) true m 3 [v5]=some y4:=by simpa [cS,cI,cB,cT,cP] using hf 4 _ rfl
  obtain ⟨Gd,e4,_,_⟩:=DataW.trod_int Tryz.underlying3 f4
  have f5:DataW.trod enc Tryz.prog W 0 (fun _=>true) true m 28 [v6]=some y5:=by simpa [cS,cI,cB,cT,cP] using hf 5 _ rfl
  obtain ⟨SA,SN,SC,SX,SY,e5,h5⟩:=zN7 f5
  have f6:DataW.trod enc Tryz.prog W 0 (fun _=>true) true m 4 [v7]=some y6:=by simpa [cS,cI,cB,cT,cP] using hf 6 _ rfl
  obtain ⟨Pt,e6,_⟩:=DataW.trod_bool Tryz.underlying4 f6
  have f7:DataW.trod enc Tryz.prog W 0 (fun _=>true) true m 3 [v8]=some y7:=by simpa [cS,cI,cB,cT,cP] using hf 7 _ rfl
  obtain ⟨Rs,e7,_,_⟩:=DataW.trod_int Tryz.underlying3 f7
  simp only [List.cons.injEq,and_true] at e0 e1 e3 e4 e6 e7
  subst e0;subst e1;obtain ⟨rfl,rfl⟩:=e2;subst e3;subst e4;subst e5;subst e6;subst e7
  exact ⟨Nm,Kd,Ax,Ay,Iv,Gd,SA,SN,SC,SX,SY,Pt,Rs,rfl,h5⟩
set_option maxRecDepth 100000 in
theorem zT5 {fuel:Nat} {v:Value} {x:DataW H×List MemPlace} (hf:DataW.trod enc Tryz.prog W 0 (fun _=>true) true fuel 49 [v]=some x):
 ∃(A:Option Addr) (n c:Nat) (D:Nds),v= .slice A n c∧NdIn W A n D:=by
 rcases open_slice Tryz.underlying49 hf with ⟨hcs,_⟩|⟨a,len,cap,m,n,D,Pl,hcs,hb,hl,hm,hmm,hx,hi⟩
 ·obtain rfl:v= .slice none 0 0:=by simpa using hcs
  exact ⟨none,0,0,⟨fun _=>ByteArray.empty,fun _=>0,fun _=>0,fun _=>0,fun _=>0,fun _=>0,fun _=>none,fun _=>0,fun _=>0,fun _ _=>0,fun _ _=>0,fun _=>false,fun _=>0⟩,rfl,by omega,.inl rfl⟩
 ·obtain rfl:v= .slice (some a) len cap:=by simpa using hcs
  unfold maxLen at hm
  simp only [if_true] at hmm
  have hC:Tryz.prog.cellsOf 30=9:=by kernel_rfl
  refine ⟨some a,len,cap,⟨fun i=>cStr W (a.add (i*9+0)),fun i=>cInt W (a.add (i*9+1)),fun i=>cInt W (a.add (i*9+2)),fun i=>cInt W (a.add (i*9+3)),fun i=>cInt W (a.add (i*9+4)),fun i=>cInt W (a.add (i*9+5)),fun i=>(cSl W (a.add (i*9+6))).1,fun i=>(cSl W (a.add (i*9+6))).2.1,fun i=>(cSl W (a.add (i*9+6))).2.2,fun i=>(tabOf W (cSl W (a.add (i*9+6))).1 (cSl W (a.add (i*9+6))).2.1).1,fun i=>(tabOf W (cSl W (a.add (i*9+6))).1 (cSl W (a.add (i*9+6))).2.1).2,fun i=>cBool W (a.add (i*9+7)),fun i=>cInt W (a.add (i*9+8))⟩,rfl,by omega,?_⟩
  have cells:∀i,i<len→(∀j v,([.string (cStr W (a.add (i*9+0))),.int .i64 (cInt W (a.add (i*9+1))),.int .i64 (cInt W (a.add (i*9+2))),.int .i64 (cInt W (a.add (i*9+3))),.int .i64 (cInt W (a.add (i*9+4))),.int .i64 (cInt W (a.add (i*9+5))),.slice (cSl W (a.add (i*9+6))).1 (cSl W (a.add (i*9+6))).2.1 (cSl W (a.add (i*9+6))).2.2,.bool (cBool W (a.add (i*9+7))),.int .i64 (cInt W (a.add (i*9+8)))]:List Value)[j]?=some v→W.cell? (a.add (i*9+j))=some v)∧TabIn W (cSl W (a.add (i*9+6))).1 (cSl W (a.add (i*9+6))).2.1 (tabOf W (cSl W (a.add (i*9+6))).1 (cSl W (a.add (i*9+6))).2.1).1 (tabOf W (cSl W (a.add (i*9+6))).1 (cSl W (a.add (i*9+6))).2.1).2:=by
   intro i him
   obtain ⟨cs',hc,ht'⟩:=hi i (by omega)
   rw [hC] at hc
   obtain ⟨_,hcl,hat0⟩:=World.cells?_some hc
   obtain ⟨Nm,Kd,Ax,Ay,Iv,Gd,SA,SN,SC,SX,SY,Pt,Rs,rfl,hSA⟩:=zL6 ht'
   have hat:∀j v,([.string Nm,.int .i64 Kd,.int .i64 Ax,.int .i64 Ay,.int .i64 Iv,.int .i64 Gd,.slice SA SN SC,.bool Pt,.int .i64 Rs]:List Value)[j]?=some v→W.cell? (a.add (i*9+j))=some v:=fun j v hj=>by
        have hjl:j<9:=by
         have:=(List.getElem?_eq_some_iff.1 hj).1
         simpa using this
        rw [←Go.Deep.add_add,hat0 j hjl]
        exact hj
   rw [zV7 (hat 0 _ rfl),zG0 (hat 1 _ rfl),zG0 (hat 2 _ rfl),zG0 (hat 3 _ rfl),zG0 (hat 4 _ rfl),zG0 (hat 5 _ rfl),cSl_of (hat 6 _ rfl),cBool_of (hat 7 _ rfl),zG0 (hat 8 _ rfl)]
   exact ⟨hat,tabOf_in hSA⟩
  rcases Nat.eq_zero_or_pos len with h0 |h0
  ·exact .inl h0
  ·right
   have hc:=(cells 0 h0).1 0 _ rfl
   rw [Nat.zero_mul] at hc
   have ha0:a.add (0+0)=a:=by unfold Addr.add;simp
   rw [ha0] at hc
   obtain ⟨b,off,rfl,hlt,e⟩:=addr_at hc
   refine ⟨b,off,rfl,hlt,fun k hk=>?_⟩
   have hck:=cells k hk
   refine ⟨fun j v hj=>?_,hck.2⟩
   have:=hck.1 j v hj
   rw [e,←Nat.add_assoc] at this
   exact this
set_option maxRecDepth 100000 in
theorem zL7 {fuel:Nat} {vs:List Value} {y:DataW H×List MemPlace} (h:DataW.trod enc Tryz.prog W 0 (fun _=>true) true fuel 32 vs=some y):
 ∃(Nm:ByteArray) (Fr:ByteArray) (To:ByteArray) (Kd:Int) (Ln:Int) (Up:Int) (Dn:Int) (Sc:ByteArray) (Wd:Int) (Ht:Int) (CA:Option Addr) (CN CC:Nat) (CX CY:Nat→Int),vs=[.string Nm,.string Fr,.string To,.int .i64 Kd,.int .i64 Ln,.int .i64 Up,.int .i64 Dn,.string Sc,.int .i64 Wd,.int .i64 Ht,.slice CA CN CC]∧TabIn W CA CN CX CY:=by
 obtain ⟨ys,m,_,_,hl,hyl,hf⟩:=DataW.trod_struct Tryz.underlying32 h
 have hl9:vs.length=11:=hl.trans (by kernel_rfl)
 have hyl8:ys.length=11:=hyl
 match vs,hl9 with
 |[v0,v1,v2,v3,v4,v5,v6,v7,v8,v9,v10],_=>
 match ys,hyl8 with
 |[y0,y1,y2,y3,y4,y5,y6,y7,y8,y9,y10],_=>
  have f0:DataW.trod enc Tryz.prog W 0 (fun _=>true) true m 9 [v0]=some y0:=by simpa [cS,cI,cB,cT,cP] using hf 0 _ rfl
  obtain ⟨Nm,e0,_,_⟩:=DataW.trod_string Tryz.underlying9 f0
  have f1:DataW.trod enc Tryz.prog W 0 (fun _=>true) true m 9 [v1]=some y1:=by simpa [cS,cI,cB,cT,cP] using hf 1 _ rfl
  obtain ⟨Fr,e1,_,_⟩:=DataW.trod_string Tryz.underlying9 f1
  have f2:DataW.trod enc Tryz.prog W 0 (fun _=>true) true m 9 [v2]=some y2:=by simpa [cS,cI,cB,cT,cP] using hf 2 _ rfl
  obtain ⟨To,e2,_,_⟩:=DataW.trod_string Tryz.underlying9 f2
  have f3:DataW.trod enc Tryz.prog W 0 (fun _=>true) true m 3 [v3]=some y3:=by simpa [cS,cI,cB,cT,cP] using hf 3 _ rfl
  obtain ⟨Kd,e3,_,_⟩:=DataW.trod_int Tryz.underlying3 f3
  have f4:DataW.trod enc Tryz.prog W 0 (fun _=>true) true m 3 [v4]=some y4:=by simpa [cS,cI,cB,cT,cP] using hf 4 _ rfl
  obtain ⟨Ln,e4,_,_⟩:=DataW.trod_int Tryz.underlying3 f4
  have f5:DataW.trod enc Tryz.prog W 0 (fun _=>true) true m 3 [v5]=some y5:=by simpa [cS,cI,cB,cT,cP] using hf 5 _ rfl
  obtain ⟨Up,e5,_,_⟩:=DataW.trod_int Tryz.underlying3 f5
  have f6:DataW.trod enc Tryz.prog W 0 (fun _=>true) true m 3 [v6]=some y6:=by simpa [cS,cI,cB,cT,cP] using hf 6 _ rfl
  obtain ⟨Dn,e6,_,_⟩:=DataW.trod_int Tryz.underlying3 f6
  have f7:DataW.trod enc Tryz.prog W 0 (fun _=>true) true m 9 [v7]=some y7:=by simpa [cS,cI,cB,cT,cP] using hf 7 _ rfl
  obtain ⟨Sc,e7,_,_⟩:=DataW.trod_string Tryz.underlying9 f7
  have f8:DataW.trod enc Tryz.prog W 0 (fun _=>true) true m 3 [v8]=some y8:=by simpa [cS,cI,cB,cT,cP] using hf 8 _ rfl
  obtain ⟨Wd,e8,_,_⟩:=DataW.trod_int Tryz.underlying3 f8
  have f9:DataW.trod enc Tryz.prog W 0 (fun _=>true) true m 3 [v9]=some y9:=by simpa [cS,cI,cB,cT,cP] using hf 9 _ rfl
  obtain ⟨Ht,e9,_,_⟩:=DataW.trod_int Tryz.underlying3 f9
  have f10:DataW.trod enc Tryz.prog W 0 (fun _=>true) true m 28 [v10]=some y10:=by simpa [cS,cI,cB,cT,cP] using hf 10 _ rfl
  obtain ⟨CA,CN,CC,CX,CY,e10,h10⟩:=zN7 f10
  simp only [List.cons.injEq,and_true] at e0 e1 e2 e3 e4 e5 e6 e7 e8 e9
  subst e0;subst e1;subst e2;subst e3;subst e4;subst e5;subst e6;subst e7;subst e8;subst e9;subst e10
  exact ⟨Nm,Fr,To,Kd,Ln,Up,Dn,Sc,Wd,Ht,CA,CN,CC,CX,CY,rfl,h10⟩
set_option maxRecDepth 100000 in
theorem zT6 {fuel:Nat} {v:Value} {x:DataW H×List MemPlace} (hf:DataW.trod enc Tryz.prog W 0 (fun _=>true) true fuel 50 [v]=some x):
 ∃(A:Option Addr) (n c:Nat) (D:Lks),v= .slice A n c∧LkIn W A n D:=by
 rcases open_slice Tryz.underlying50 hf with ⟨hcs,_⟩|⟨a,len,cap,m,n,D,Pl,hcs,hb,hl,hm,hmm,hx,hi⟩
 ·obtain rfl:v= .slice none 0 0:=by simpa using hcs
  exact ⟨none,0,0,⟨fun _=>ByteArray.empty,fun _=>ByteArray.empty,fun _=>ByteArray.empty,fun _=>0,fun _=>0,fun _=>0,fun _=>0,fun _=>ByteArray.empty,fun _=>0,fun _=>0,fun _=>none,fun _=>0,fun _=>0,fun _ _=>0,fun _ _=>0⟩,rfl,by omega,.inl rfl⟩
 ·obtain rfl:v= .slice (some a) len cap:=by simpa using hcs
  unfold maxLen at hm
  simp only [if_true] at hmm
  have hC:Tryz.prog.cellsOf 32=11:=by kernel_rfl
  refine ⟨some a,len,cap,⟨fun i=>cStr W (a.add (i*11+0)),fun i=>cStr W (a.add (i*11+1)),fun i=>cStr W (a.add (i*11+2)),fun i=>cInt W (a.add (i*11+3)),fun i=>cInt W (a.add (i*11+4)),fun i=>cInt W (a.add (i*11+5)),fun i=>cInt W (a.add (i*11+6)),fun i=>cStr W (a.add (i*11+7)),fun i=>cInt W (a.add (i*11+8)),fun i=>cInt W (a.add (i*11+9)),fun i=>(cSl W (a.add (i*11+10))).1,fun i=>(cSl W (a.add (i*11+10))).2.1,fun i=>(cSl W (a.add (i*11+10))).2.2,fun i=>(tabOf W (cSl W (a.add (i*11+10))).1 (cSl W (a.add (i*11+10))).2.1).1,fun i=>(tabOf W (cSl W (a.add (i*11+10))).1 (cSl W (a.add (i*11+10))).2.1).2⟩,rfl,by omega,?_⟩
  have cells:∀i,i<len→(∀j v,([.string (cStr W (a.add (i*11+0))),.string (cStr W (a.add (i*11+1))),.string (cStr W (a.add (i*11+2))),.int .i64 (cInt W (a.add (i*11+3))),.int .i64 (cInt W (a.add (i*11+4))),.int .i64 (cInt W (a.add (i*11+5))),.int .i64 (cInt W (a.add (i*11+6))),.string (cStr W (a.add (i*11+7))),.int .i64 (cInt W (a.add (i*11+8))),.int .i64 (cInt W (a.add (i*11+9))),.slice (cSl W (a.add (i*11+10))).1 (cSl W (a.add (i*11+10))).2.1 (cSl W (a.add (i*11+10))).2.2]:List Value)[j]?=some v→W.cell? (a.add (i*11+j))=some v)∧TabIn W (cSl W (a.add (i*11+10))).1 (cSl W (a.add (i*11+10))).2.1 (tabOf W (cSl W (a.add (i*11+10))).1 (cSl W (a.add (i*11+10))).2.1).1 (tabOf W (cSl W (a.add (i*11+10))).1 (cSl W (a.add (i*11+10))).2.1).2:=by
   intro i him
   obtain ⟨cs',hc,ht'⟩:=hi i (by omega)
   rw [hC] at hc
   obtain ⟨_,hcl,hat0⟩:=World.cells?_some hc
   obtain ⟨Nm,Fr,To,Kd,Ln,Up,Dn,Sc,Wd,Ht,CA,CN,CC,CX,CY,rfl,hCA⟩:=zL7 ht'
   have hat:∀j v,([.string Nm,.string Fr,.string To,.int .i64 Kd,.int .i64 Ln,.int .i64 Up,.int .i64 Dn,.string Sc,.int .i64 Wd,.int .i64 Ht,.slice CA CN CC]:List Value)[j]?=some v→W.cell? (a.add (i*11+j))=some v:=fun j v hj=>by
        have hjl:j<11:=by
         have:=(List.getElem?_eq_some_iff.1 hj).1
         simpa using this
        rw [←Go.Deep.add_add,hat0 j hjl]
        exact hj
   rw [zV7 (hat 0 _ rfl),zV7 (hat 1 _ rfl),zV7 (hat 2 _ rfl),zG0 (hat 3 _ rfl),zG0 (hat 4 _ rfl),zG0 (hat 5 _ rfl),zG0 (hat 6 _ rfl),zV7 (hat 7 _ rfl),zG0 (hat 8 _ rfl),zG0 (hat 9 _ rfl),cSl_of (hat 10 _ rfl)]
   exact ⟨hat,tabOf_in hCA⟩
  rcases Nat.eq_zero_or_pos len with h0 |h0
  ·exact .inl h0
  ·right
   have hc:=(cells 0 h0).1 0 _ rfl
   rw [Nat.zero_mul] at hc
   have ha0:a.add (0+0)=a:=by unfold Addr.add;simp
   rw [ha0] at hc
   obtain ⟨b,off,rfl,hlt,e⟩:=addr_at hc
   refine ⟨b,off,rfl,hlt,fun k hk=>?_⟩
   have hck:=cells k hk
   refine ⟨fun j v hj=>?_,hck.2⟩
   have:=hck.1 j v hj
   rw [e,←Nat.add_assoc] at this
   exact this
set_option maxRecDepth 100000 in
theorem open_net {b0:Nat} {v:Value} {d:DataW H} {p:List MemPlace} (hv:Value.okWide Tryz.prog W .any b0 52 v) (h:DataW.Trod enc Tryz.prog W 0 (fun _=>true) true 52 v d p):
 ∃(NA LA:Option Addr) (n nc m lc:Nat) (D:Nds) (K:Lks),v= .agg #[.slice NA n nc,.slice LA m lc]∧NdIn W NA n D∧LkIn W LA m K:=by
 obtain ⟨cs,rfl,hsz⟩:=okWide_struct Tryz.underlying52 hv
 have hC:Tryz.prog.cellsOf 52=2:=by kernel_rfl
 obtain ⟨l⟩:=cs
 match l,hsz.trans hC with
 |[u0,u1],_=>
  obtain ⟨fuel,hf⟩:=h
  obtain ⟨ys,m',_,_,hl',hyl,hf'⟩:=DataW.trod_struct Tryz.underlying52 hf
  have hyl2:ys.length=2:=hyl
  match ys,hyl2 with
  |[y0,y1],_=>
   have cN:Tryz.prog.cellsOf 49=1:=by kernel_rfl
   have cL:Tryz.prog.cellsOf 50=1:=by kernel_rfl
   have f0:DataW.trod enc Tryz.prog W 0 (fun _=>true) true m' 49 [u0]=some y0:=by simpa [cN,Value.cells] using hf' 0 _ rfl
   have f1:DataW.trod enc Tryz.prog W 0 (fun _=>true) true m' 50 [u1]=some y1:=by simpa [cL,Value.cells] using hf' 1 _ rfl
   obtain ⟨NA,n,nc,D,e0,hD⟩:=zT5 f0
   obtain ⟨LA,m,lc,K,e1,hK⟩:=zT6 f1
   subst e0 e1
   exact ⟨NA,LA,n,nc,m,lc,D,K,rfl,hD,hK⟩
end
end Go.Proofs.YtchakniaoeodmaaGreatDoor

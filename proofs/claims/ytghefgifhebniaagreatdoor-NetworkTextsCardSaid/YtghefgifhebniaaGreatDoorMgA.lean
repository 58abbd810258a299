/- Merged texts of these proofs: NAx, NEq, AwL. -/
import Derived.Test.YtghefgifhebniaaGreatDoorMgJ
import Derived.Test.YtghefgifhebniaaGreatDoorMgE
import Derived.Test.YtghefgifhebniaaGreatDoorMgP
import Derived.Test.YtghefgifhebniaaGreatDoorNPr
namespace Go.Proofs.YtghefgifhebniaaGreatDoor
open Go.RowKit Go.Sort
set_option linter.unusedVariables false
set_option linter.unusedSimpArgs false
def exA:Ndr:=⟨⟨#[97]⟩,1,0,0,1000,3000,[(0,0),(2000,1500000)],false,0⟩
def exO:Ndr:=⟨⟨#[111]⟩,3,0,50000,800,2000,[],false,0⟩
def exP:Lkr:=⟨⟨#[112]⟩,⟨#[97]⟩,⟨#[111]⟩,1,50000,1000,900,⟨#[99,51,48,48]⟩,0,0,[]⟩
def ex1:List UInt8:=[109,97,110,104,111,108,101,32,97,32,48,32,48,32,49,48,48,48,32,51,48,48,48,32,48,58,48,32,50,48,48,48,58,49,53,48,48,48,48,48]
def ex2:List UInt8:=[111,117,116,102,97,108,108,32,111,32,48,32,53,48,48,48,48,32,56,48,48,32,50,48,48,48]
def ex3:List UInt8:=[112,105,112,101,32,112,32,97,32,111,32,53,48,48,48,48,32,49,48,48,48,32,57,48,48,32,99,51,48,48]
def exS:ByteArray:=⟨(ex1++[10]++(ex2++[10]++(ex3++[10]))).toArray⟩
theorem zF9 {v:Int} (h:near v):zE3 v:=zG7 h.1 h.2
theorem zH5 {v:Int} (h1: -1000000≤v) (h2:v≤10000000):near v:=by unfold near;omega
theorem tabA:tabT [(0,0),(2000,1500000)]:=by
 refine ⟨by decide,by decide,fun k hk=>?_⟩
 have hk2:k<2:=hk
 match k,hk2 with
 |0,_=>unfold zG6 inB;decide
 |1,_=>unfold zG6 inB;decide
theorem is_exA:IsNd ex1 exA:=⟨⟨⟨by decide,by decide,by decide⟩,zF9 (zH5 (by decide) (by decide)),zF9 (zH5 (by decide) (by decide)),zF9 (zH5 (by decide) (by decide)),zF9 (zH5 (by decide) (by decide)),.inl ⟨rfl,tabA,rfl,rfl⟩⟩,by kernel_rfl⟩
theorem is_exO:IsNd ex2 exO:=⟨⟨⟨by decide,by decide,by decide⟩,zF9 (zH5 (by decide) (by decide)),zF9 (zH5 (by decide) (by decide)),zF9 (zH5 (by decide) (by decide)),zF9 (zH5 (by decide) (by decide)),.inr (.inr ⟨rfl,rfl,rfl,rfl⟩)⟩,by kernel_rfl⟩
theorem is_exP:IsLk ex3 exP:=⟨⟨⟨by decide,by decide,by decide⟩,⟨by decide,by decide,by decide⟩,⟨by decide,by decide,by decide⟩,zF9 (zH5 (by decide) (by decide)),.inl ⟨rfl,zF9 (zH5 (by decide) (by decide)),zF9 (zH5 (by decide) (by decide)),⟨by decide,by decide,by decide⟩,rfl,rfl,rfl⟩⟩,by kernel_rfl⟩
theorem runs_ex:Runs [] [] (rln exS.data.toList) [exA,exO] [exP]:=by
 have e:rln exS.data.toList=[ex1++[10],ex2++[10],ex3++[10]]:=by decide
 rw [e]
 exact .cons (.inl ⟨ex1,exA,rfl,is_exA,rfl,rfl,rfl⟩) (.cons (.inl ⟨ex2,exO,rfl,is_exO,rfl,rfl,rfl⟩) (.cons (.inr ⟨ex3,exP,rfl,is_exP,rfl,rfl⟩) (.nil _ _)))
theorem fnd_a (D:Nds) (h0:D.Nm 0=⟨#[97]⟩):fnd D.Nm 2 ⟨#[97]⟩=0:=(fnd_at (k:=0) ⟨by omega,fun j hj=>by omega,fun _=>by simp [h0]⟩).trans (by simp)
theorem fnd_o (D:Nds) (h0:D.Nm 0=⟨#[97]⟩) (h1:D.Nm 1=⟨#[111]⟩):fnd D.Nm 2 ⟨#[111]⟩=1:=(fnd_at (k:=1) ⟨by omega,fun j hj=>by
 have:j=0:=by omega
 subst this
 show decide (D.Nm 0=⟨#[111]⟩)=false
 rw [h0];decide,fun _=>by simp [h1]⟩).trans (by simp)
theorem netV_ex:netV [exA,exO] [exP]:=by
 unfold netV
 refine ⟨by decide,by decide,fun i hi=>?_,fun i hi=>?_⟩
 ·have hi2:i<2:=hi
  match i,hi2 with
  |0,_=>
   refine ⟨⟨by decide,by show poP 0;decide,by show poP 0;decide,⟨by show lvP 1000;decide,by show lvP 3000;decide⟩,.inr ⟨.inl rfl,by decide,⟨tabA,rfl,rfl,rfl,by decide⟩,.inl ⟨rfl,rfl⟩⟩⟩,?_⟩
   exact fnd_a _ rfl
  |1,_=>
   refine ⟨⟨by decide,by show poP 0;decide,by show poP 50000;decide,⟨by show lvP 800;decide,by show lvP 2000;decide⟩,.inl ⟨rfl,by decide,rfl,rfl,rfl⟩⟩,?_⟩
   exact fnd_o _ rfl rfl
 ·have hi2:i<1:=hi
  obtain rfl:i=0:=by omega
  have h0:=fnd_a (ndsR [exA,exO] (fun _=>none) (fun _=>0)) rfl
  have h1:=fnd_o (ndsR [exA,exO] (fun _=>none) (fun _=>0)) rfl rfl
  refine ⟨⟨by decide,by decide,by decide,by decide,by show lvP 1000;decide,by show lvP 900;decide,.inl ⟨rfl,by decide,by decide,rfl,rfl,rfl⟩⟩,?_,?_,?_,?_⟩
  ·exact (fnd_at (k:=0) ⟨by simp,fun j hj=>by omega,fun _=>by simp [lksR]⟩).trans (by simp)
  ·exact h0.symm ▸ (by decide:(0:Int)≤0)
  ·exact h1.symm ▸ (by decide:(0:Int)≤1)
  ·show (ndsR [exA,exO] (fun _=>none) (fun _=>0)).Kd (fnd (ndsR [exA,exO] (fun _=>none) (fun _=>0)).Nm 2 ⟨#[97]⟩).toNat≠3
   rw [h0];decide
theorem exS_size:exS.size=99:=rfl
theorem ntis_ex {N:List Ndr} {L:List Lkr} {k:Nat} {e:Int} (h:NtIs netV exS.data.toList N L k e):N=[exA,exO]∧L=[exP]∧k=0∧e=0:=
 h.uniq (.ok _ _ (by rw [zD8,exS_size];decide) runs_ex netV_ex)
theorem runs_exs {N:List Ndr} {L:List Lkr} (h:Runs [] [] (rln exS.data.toList) N L):N.length≤2000∧L.length≤2000:=by
 obtain ⟨rfl,rfl⟩:=h.det runs_ex
 exact ⟨by decide,by decide⟩
theorem way_one {X Y:Nat→Int} {i j z:Int} (hX:X 0=i) (hY:Y 0=j):WayP X Y 1 i z↔z=j:=by
 constructor
 ·intro h
  refine Rch.closed (P:=fun z=>z=j) ?_ ?_ h
  ·rintro z ⟨k,hk,_,hk2⟩
   obtain rfl:k=0:=by omega
   rw [←hk2];exact hY
  ·intro k hk _
   obtain rfl:k=0:=by omega
   exact hY
 ·rintro rfl
  exact .src ⟨0,by omega,hX,hY⟩
theorem ord_one {X Y:Nat→Int} (hX:X 0=0) (hY:Y 0=1):ordO 2 X Y 1=[0,1]:=by
 have r2:List.range 2=[0,1]:=rfl
 have r1:List.range 1=[0]:=rfl
 have p0:pick 2 X Y 1 []=some 0:=by
  have h0:rdyB X Y 1 [] 0=true:=by unfold rdyB;rw [r1];simp [hY]
  unfold pick;rw [r2,List.find?_cons,h0]
 have p1:pick 2 X Y 1 [0]=some 1:=by
  have h0:rdyB X Y 1 [0] 0=false:=by unfold rdyB;simp
  have h1:rdyB X Y 1 [0] 1=true:=by unfold rdyB;rw [r1];simp [hX]
  unfold pick;rw [r2,List.find?_cons,h0,List.find?_cons,h1]
 unfold ordO
 show ordL 2 X Y 1 2 []=_
 rw [show ordL 2 X Y 1 2 []=(match pick 2 X Y 1 [] with |none=>[]|some v=>ordL 2 X Y 1 1 ([]++[(v:Int)])) from rfl,p0]
 show ordL 2 X Y 1 1 [0]=_
 rw [show ordL 2 X Y 1 1 [0]=(match pick 2 X Y 1 [0] with |none=>[0]|some v=>ordL 2 X Y 1 0 ([0]++[(v:Int)])) from rfl,p1]
 rfl
theorem ordR_one {X Y:Nat→Int} (hX:X 0=0) (hY:Y 0=1):ordR 2 X Y 1=[0,1]∧ordE 2 X Y 1=0:=by
 unfold ordR ordE
 rw [ord_one hX hY]
 exact ⟨rfl,rfl⟩
theorem nm_below {D:Nds} {X Y:Nat→Int} (h1:D.Nm 1=⟨#[111]⟩) (hX:X 0=0) (hY:Y 0=1):nmL D (wayB X Y 1 0) 2=[⟨#[111]⟩]:=by
 have w0:wayB X Y 1 0 0=false:=by
  cases h:wayB X Y 1 0 0 with
  |false=>rfl
  |true=>have:=(way_one hX hY).1 (zK1.1 h);simp at this
 have w1:wayB X Y 1 0 1=true:=zK1.2 ((way_one hX hY).2 rfl)
 rw [zL5,zL5,w0,w1,h1];rfl
theorem nm_above {D:Nds} {X Y:Nat→Int} (h0:D.Nm 0=⟨#[97]⟩) (hX:X 0=1) (hY:Y 0=0):nmL D (wayB X Y 1 1) 2=[⟨#[97]⟩]:=by
 have w1:wayB X Y 1 1 1=false:=by
  cases h:wayB X Y 1 1 1 with
  |false=>rfl
  |true=>have:=(way_one hX hY).1 (zK1.1 h);simp at this
 have w0:wayB X Y 1 1 0=true:=zK1.2 ((way_one hX hY).2 rfl)
 rw [zL5,zL5,w0,w1,h0];rfl
open Go.RowKit
@[go_sem] theorem eq_pair (a b c d:Int) (w:World):(Op.equalIn 10000 38 (.agg #[.int .i64 a,.int .i64 b]) (.agg #[.int .i64 c,.int .i64 d])).run Tryz.prog w= .ok (a==c&&b==d) w:=by
  have u3:=Tryz.underlying3
  have a3:=Tryz.isAgg3
  have z3:=Tryz.sizeOf3
  rw [show (10000:Nat)=9999+1 from rfl,Op.equalIn]
  simp only [Sem.run_bind,run_underlying Tryz.underlying38,Result.andThen_ok]
  simp only [Std.Legacy.Range.forIn_eq_forIn_range',Std.Legacy.Range.size,Nat.sub_zero,Nat.add_sub_cancel,Nat.div_one,List.range'_succ,List.range'_zero,List.forIn_cons,List.forIn_nil]
  go_simp
  by_cases h1:a=c<;> by_cases h2:b=d<;> simp [h1,h2]
set_option maxHeartbeats 2000000 in
theorem eequal (A B:Option Addr) (n m c d:Nat) (X Y X' Y':Nat→Int) (w:World) (hA:TabIn w A n X Y) (hB:TabIn w B m X' Y'):
 Calls Tryz.prog 20 #[.slice A n c,.slice B m d] w fun e w'=>e= .returned (.bool (boolOf (tabEq n X Y m X' Y')))∧Below w.heap.size w w':=by
 have HA:=LH hA
 have HB:=LH hB
 have H2:=LH hA.1
 obtain ⟨f,hf⟩:∃f,Hid (f=boolOf (tabEq n X Y m X' Y')):=⟨_,rfl⟩
 rw [←hf.out]
 by_cases hnm:n=m
 case neg=>
  obtain rfl:f=false:=by rw [hf.out];exact zA0 fun h=>hnm h.1
  have t1:(n==m)=false:=by simpa using hnm
  have t2:(n !=m)=true:=by simpa using hnm
  have t3:((n:Int)==(m:Int))=false:=by rw [beq_eq_false_iff_ne];omega
  have t4:((n:Int)!=(m:Int))=true:=by simp;omega
  clear hA hB hnm hf
  go_enter Tryz.func20,Tryz.ntmps20
  go_wp2_with fail
  go_ret
  exact ⟨rfl,bR _ _⟩
 case pos=>
 subst hnm
 clear hA hB
 go_enter Tryz.func20,Tryz.ntmps20
 go_wp2_with fail
 go_loopw [13] (fun u wr=>∃i:Nat,Hid (i≤n)∧u= .int .i64 i∧Hid (∀j,j<i→X j=X' j∧Y j=Y' j)∧Hid (Below w.heap.size w wr)) (fun u _=>n - (RowKit.intOf u).toNat)
 case atStart=>exact ⟨0,Nat.zero_le _,rfl,fun j hj=>absurd hj (Nat.not_lt_zero _),bR _ _⟩
 case round=>
  obtain ⟨i,Hi,rfl,HG,HW⟩:=hrel
  by_cases hlt:i<n
  ·have T0:decide ((i:Int)<(n:Int))=true:=by simp<;> omega
   have T0':decide (i<n)=true:=dT hlt
   obtain ⟨i',hi'⟩:∃z,z=i+1:=⟨_,rfl⟩
   have x0:IntKind.i64.wrap ((i:Int)+1)=(i':Int):=by have:=H2.out;rw [IntKind.wrap_i64];omega
   have HI':Hid (i'≤n):=by show i'≤n;omega
   have HMS:Hid (n - (RowKit.intOf (Value.int .i64 (i':Int))).toNat<n - (RowKit.intOf (Value.int .i64 (i:Int))).toNat):=by show _<_;simp [RowKit.intOf];omega
   have k0:(0:Int)≤(i:Int):=by omega
   have k1:(i:Int)<(n:Int):=by omega
   obtain ⟨b1,o1,rfl,hb1,p0,p1⟩:=(HA.out.below (nl _) HW.out).at hlt
   obtain ⟨b2,o2,rfl,hb2,q0,q1⟩:=(HB.out.below (nl _) HW.out).at hlt
   have HLT:=LH hlt
   have HST:Hid (X i=X' i∧Y i=Y' i→∀j,j<i'→X j=X' j∧Y j=Y' j):=fun h j hj=>by
        rcases Nat.lt_or_ge j i with g |g
        ·exact HG.out j g
        ·have:j=i:=by omega
         rw [this];exact h
   have HNO:Hid (¬(X i=X' i∧Y i=Y' i)→f=false):=fun h=>by
        rw [hf.out];exact zA0 fun g=>h (g.2 i HLT.out)
   generalize X i=x at p0 HST HNO
   generalize Y i=y at p1 HST HNO
   generalize X' i=x' at q0 HST HNO
   generalize Y' i=y' at q1 HST HNO
   clear hi' hlt
   by_cases hx:x=x'
   ·subst hx
    by_cases hy:y=y'
    ·subst hy
     go_wp2_with fail
     go_quiet (fail)
     go_wp2_with fail
     go_roundw
     case rel=>exact ⟨i',HI',rfl,HST.out (by simp),zA7 HW.out _⟩
     case measure=>exact HMS.out
    ·have t1:(y==y')=false:=by simpa using hy
     have t2:(y !=y')=true:=by simpa using hy
     obtain rfl:f=false:=HNO.out (by simpa using hy)
     clear hy
     go_wp2_with fail
     go_quiet (fail)
     go_wp2_with fail
     go_ret
     exact ⟨rfl,zA7 HW.out _⟩
   ·have t1:(x==x')=false:=by simpa using hx
    have t2:(x !=x')=true:=by simpa using hx
    obtain rfl:f=false:=HNO.out fun h=>hx h.1
    clear hx
    go_wp2_with fail
    go_quiet (fail)
    go_wp2_with fail
    go_ret
    exact ⟨rfl,zA7 HW.out _⟩
  ·have hin:i=n:=by have:=Hi.out;omega
   have T0:decide ((i:Int)<(n:Int))=false:=by simp<;> omega
   have T0':decide (i<n)=false:=dF hlt
   obtain rfl:f=true:=by rw [hf.out];exact zA2 ⟨rfl,by rw [←hin];exact HG.out⟩
   clear hlt hin
   go_wp2_with fail
   go_ret
   exact ⟨rfl,HW.out⟩
structure ExNet (D:Nds) (K:Lks):Prop where
 sz:NetSz D 2 K 1
 ok:netP D 2 K 1
 n0:D.Nm 0=⟨#[97]⟩
 n1:D.Nm 1=⟨#[111]⟩
 x0:eX D 2 K 0=0
 y0:eY D 2 K 0=1
theorem ex_net {NM:List Ndm} {LM:List Lkm} (h1:ndx NM=[exA,exO]) (h2:lkx LM=[exP]):NM.length=2∧LM.length=1∧ExNet (ndsM NM) (lksM LM):=by
 have l1:NM.length=2:=by have:=congrArg List.length h1;unfold ndx at this;rwa [List.length_map] at this
 have l2:LM.length=1:=by have:=congrArg List.length h2;unfold lkx at this;rwa [List.length_map] at this
 have a0:(ndsM NM).Nm 0=⟨#[97]⟩:=by unfold ndsM ndsR;rw [h1];rfl
 have a1:(ndsM NM).Nm 1=⟨#[111]⟩:=by unfold ndsM ndsR;rw [h1];rfl
 have b0:(lksM LM).Fr 0=⟨#[97]⟩:=by unfold lksM lksR;rw [h2];rfl
 have b1:(lksM LM).To 0=⟨#[111]⟩:=by unfold lksM lksR;rw [h2];rfl
 have b2:(lksM LM).Nm 0=⟨#[112]⟩:=by unfold lksM lksR;rw [h2];rfl
 have b3:(lksM LM).Sc 0=⟨#[99,51,48,48]⟩:=by unfold lksM lksR;rw [h2];rfl
 have b4:(lksM LM).CN 0=0:=by unfold lksM lksR;rw [h2];rfl
 have hok:netP (ndsM NM) 2 (lksM LM) 1:=by
  have:=(netV_iff (ndx NM) (lkx LM) (fun k=>(NM.getD k ⟨zNd,none,0⟩).A) (fun k=>(LM.getD k ⟨zLk,none,0⟩).A) (fun k=>(NM.getD k ⟨zNd,none,0⟩).c) (fun k=>(LM.getD k ⟨zLk,none,0⟩).c)).2 (by rw [h1,h2];exact netV_ex)
  rw [h1,h2] at this
  unfold ndsM lksM
  rw [h1,h2]
  exact this
 have hmx:(1:Nat)≤maxLen∧(4:Nat)≤maxLen:=by have:maxLen=9223372036854775807:=rfl;omega
 have one:∀i,i<1→i=0:=fun i hi=>by omega
 refine ⟨l1,l2,⟨by decide,by decide,fun i hi=>?_,fun i hi=>?_,fun i hi=>?_,fun i hi=>?_,fun i hi=>?_,fun i hi=>?_⟩,hok,a0,a1,?_,?_⟩
 ·rcases (show i=0∨i=1 by omega) with rfl |rfl
  ·rw [a0];exact hmx.1
  ·rw [a1];exact hmx.1
 ·rw [one i hi,b2];exact hmx.1
 ·rw [one i hi,b0];exact hmx.1
 ·rw [one i hi,b1];exact hmx.1
 ·rw [one i hi,b3];exact hmx.2
 ·rw [one i hi,b4];omega
 ·unfold eX;rw [b0];exact fnd_a _ a0
 ·unfold eY;rw [b1];exact fnd_o _ a0 a1
theorem own_ints {w:World} {B:Nat} {u:Value} {L:List Int} (h:w.ownsRow B 3 1 u L.length (ic L)) (hL:L≠[]):∃g c,u= .slice (some ⟨g,0,none⟩) L.length c∧g<w.heap.size∧∀j,j<L.length→w.cell? ⟨g,0+j,none⟩=some (.int .i64 (L.getD j 0)):=by
 rcases h.2 with ⟨hv,h0⟩|⟨g,cap,cur,hv,_⟩
 ·exact absurd (List.eq_nil_of_length_eq_zero h0) hL
 ·subst hv
  refine ⟨g,cap,rfl,(h.lt g rfl).2,fun j hj=>?_⟩
  have:=h.cellAt j (by omega)
  rw [Nat.zero_add]
  refine this.trans ?_
  unfold ic
  simp [List.getD,hj]
theorem own_strs {w:World} {B:Nat} {u:Value} {L:List ByteArray} (h:w.ownsRow B 9 1 u L.length (sc L)) (hL:L≠[]):∃g c,u= .slice (some ⟨g,0,none⟩) L.length c∧g<w.heap.size∧∀j,j<L.length→w.cell? ⟨g,0+j,none⟩=some (.string (L.getD j ByteArray.empty)):=by
 rcases h.2 with ⟨hv,h0⟩|⟨g,cap,cur,hv,_⟩
 ·exact absurd (List.eq_nil_of_length_eq_zero h0) hL
 ·subst hv
  have hl:(sc L).length=L.length:=by unfold sc;simp
  refine ⟨g,cap,rfl,(h.lt g rfl).2,fun j hj=>?_⟩
  have:=h.cellAt j (by omega)
  rw [Nat.zero_add]
  refine this.trans ?_
  unfold sc
  simp [List.getD,hj]
theorem eq_edge {A:Option Addr} {c:Nat} {X Y:Nat→Int} {w:World} (h:TabIn w A 1 X Y) (hx:X 0=0) (hy:Y 0=1):Calls Tryz.prog 20 #[.slice A 1 c,.slice (some ⟨w.heap.size,0,none⟩) 1 1] (w.alloc (Obj.cells #[.int .i64 0,.int .i64 1] 38)) fun e w'=>e= .returned (.bool true)∧Below w.heap.size w w':=by
 have hal:Below w.heap.size w (w.alloc (Obj.cells #[.int .i64 0,.int .i64 1] 38)):=(bR _ w).alloc (nl _) _
 have hb:=Blk.new w 38 #[.int .i64 0,.int .i64 1]
 have h2:TabIn (w.alloc (Obj.cells #[.int .i64 0,.int .i64 1] 38)) (some ⟨w.heap.size,0,none⟩) 1 (fun _=>0) (fun _=>1):=⟨by omega,.inr ⟨_,_,rfl,hb.lt,fun k hk=>by
  obtain rfl:k=0:=by omega
  exact ⟨hb.cell 0,hb.cell 1⟩⟩⟩
 have hq:tabEq 1 X Y 1 (fun _=>0) (fun _=>1):=⟨rfl,fun k hk=>by
  obtain rfl:k=0:=by omega
  exact ⟨hx,hy⟩⟩
 refine (eequal A _ 1 1 c 1 X Y _ _ _ (h.below (nl _) hal) h2).mono ?_
 rintro e w' ⟨he,hb'⟩
 exact ⟨by rw [he,zA2 hq],zA1 hal hb'⟩
theorem eq_ints {B:Nat} {u:Value} {w:World} (h:w.ownsRow B 3 1 u 2 (ic [0,1])):Calls Tryz.prog 22 #[u,.slice (some ⟨w.heap.size,0,none⟩) 2 2] (w.alloc (Obj.cells #[.int .i64 0,.int .i64 1] 3)) fun e w'=>e= .returned (.bool true)∧Below w.heap.size w w':=by
 obtain ⟨g,c,rfl,hg,hc⟩:=own_ints (L:=[0,1]) h (by simp)
 have hal:Below w.heap.size w (w.alloc (Obj.cells #[.int .i64 0,.int .i64 1] 3)):=(bR _ w).alloc (nl _) _
 have hb:=Blk.new w 3 #[.int .i64 0,.int .i64 1]
 refine (Tryz.slices_Equal_int g 0 2 c w.heap.size 0 2 2 [0,1] [0,1] _ (by simp) (by simp) (by omega) (by omega) (fun j hj=>(hal.cell (p:=⟨g,0+j,none⟩) hg).trans (hc j hj)) (fun j hj=>?_)).mono ?_
 ·have hj2:j<2:=hj
  match j,hj2 with
  |0,_=>exact hb.cell 0
  |1,_=>exact hb.cell 1
 ·rintro e w' ⟨he,q,rfl⟩
  exact ⟨by rw [he];rfl,zA7 hal _⟩
theorem eq_strs {B:Nat} {u:Value} {s:ByteArray} {w:World} (h:w.ownsRow B 9 1 u 1 (sc [s])):Calls Tryz.prog 26 #[u,.slice (some ⟨w.heap.size,0,none⟩) 1 1] (w.alloc (Obj.cells #[.string s] 9)) fun e w'=>e= .returned (.bool true)∧Below w.heap.size w w':=by
 obtain ⟨g,c,rfl,hg,hc⟩:=own_strs (L:=[s]) h (by simp)
 have hal:Below w.heap.size w (w.alloc (Obj.cells #[.string s] 9)):=(bR _ w).alloc (nl _) _
 have hb:=Blk.new w 9 #[.string s]
 refine (Tryz.slices_Equal_string g 0 1 c w.heap.size 0 1 1 [s] [s] _ (by simp) (by simp) (by omega) (by omega) (fun j hj=>(hal.cell (p:=⟨g,0+j,none⟩) hg).trans (hc j hj)) (fun j hj=>?_)).mono ?_
 ·have hj2:j<1:=hj
  obtain rfl:j=0:=by omega
  exact hb.cell 0
 ·rintro e w' ⟨he,q,rfl⟩
  exact ⟨by rw [he];simp,zA7 hal _⟩
theorem ex_valid {NA LA:Option Addr} {cn cl:Nat} {D:Nds} {K:Lks} {w:World} (hX:ExNet D K) (hD:NdIn w NA 2 D) (hK:LkIn w LA 1 K):Calls Tryz.prog 36 #[.agg #[.slice NA 2 cn,.slice LA 1 cl]] w fun e w'=>e= .returned (.bool true)∧Below w.heap.size w w':=by
 refine (nvalid NA LA 2 cn 1 cl D K hX.sz w hD hK).mono ?_
 rintro e w' ⟨he,hb⟩
 exact ⟨by rw [he,zA2 hX.ok],hb⟩
theorem ex_edges {NA LA:Option Addr} {cn cl:Nat} {D:Nds} {K:Lks} {w:World} (hX:ExNet D K) (hD:NdIn w NA 2 D) (hK:LkIn w LA 1 K):Calls Tryz.prog 16 #[.agg #[.slice NA 2 cn,.slice LA 1 cl]] w fun e w'=>∃A c,e= .returned (.tuple #[.slice A 1 c,.int .i64 0])∧TabIn w' A 1 (eX D 2 K) (eY D 2 K)∧Below w.heap.size w w':=by
 refine (tnedges NA LA 2 cn 1 cl D K hX.sz w hD hK).mono ?_
 rintro e w' (⟨hn,_⟩|⟨_,u,he,hm⟩)
 ·exact absurd hX.ok hn
 ·obtain ⟨A,c,rfl,ht⟩:=hm.tab (by decide)
  exact ⟨A,c,he,ht,hm.2⟩
theorem ex_order {NA LA:Option Addr} {cn cl:Nat} {D:Nds} {K:Lks} {w:World} (hX:ExNet D K) (hD:NdIn w NA 2 D) (hK:LkIn w LA 1 K):Calls Tryz.prog 17 #[.agg #[.slice NA 2 cn,.slice LA 1 cl]] w fun e w'=>∃u,e= .returned (.tuple #[u,.int .i64 0])∧w'.ownsRow w.heap.size 3 1 u 2 (ic [0,1])∧Below w.heap.size w w':=by
 refine (tnorder NA LA 2 cn 1 cl D K hX.sz w hD hK).mono ?_
 rintro e w' (⟨hn,_⟩|⟨_,u,he,ho,hb⟩)
 ·exact absurd hX.ok hn
 ·obtain ⟨h1,h2⟩:=ordR_one hX.x0 hX.y0
  rw [h1] at ho
  rw [h2] at he
  exact ⟨u,he,ho,hb⟩
theorem ex_below {NA LA:Option Addr} {cn cl:Nat} {D:Nds} {K:Lks} {w:World} (hX:ExNet D K) (hD:NdIn w NA 2 D) (hK:LkIn w LA 1 K):Calls Tryz.prog 24 #[.agg #[.slice NA 2 cn,.slice LA 1 cl],.string ⟨#[97]⟩] w fun e w'=>∃u,e= .returned (.tuple #[u,.int .i64 0])∧w'.ownsRow w.heap.size 9 1 u 1 (sc [⟨#[111]⟩])∧Below w.heap.size w w':=by
 refine (tnbelow NA LA 2 cn 1 cl D K _ hX.sz w hD hK).mono ?_
 have hf:=fnd_a D hX.n0
 rintro e w' (⟨hn,_⟩|⟨_,h⟩)
 ·exact absurd hX.ok hn
 ·rw [hf] at h
  rcases h with ⟨h0,_⟩|⟨_,u,he,hm⟩
  ·omega
  ·have:=nm_below (D:=D) hX.n1 hX.x0 hX.y0
   rw [this] at hm
   exact ⟨u,he,hm.1,hm.2⟩
theorem ex_above {NA LA:Option Addr} {cn cl:Nat} {D:Nds} {K:Lks} {w:World} (hX:ExNet D K) (hD:NdIn w NA 2 D) (hK:LkIn w LA 1 K):Calls Tryz.prog 23 #[.agg #[.slice NA 2 cn,.slice LA 1 cl],.string ⟨#[111]⟩] w fun e w'=>∃u,e= .returned (.tuple #[u,.int .i64 0])∧w'.ownsRow w.heap.size 9 1 u 1 (sc [⟨#[97]⟩])∧Below w.heap.size w w':=by
 refine (tnabove NA LA 2 cn 1 cl D K _ hX.sz w hD hK).mono ?_
 have hf:=fnd_o D hX.n0 hX.n1
 rintro e w' (⟨hn,_⟩|⟨_,h⟩)
 ·exact absurd hX.ok hn
 ·rw [hf] at h
  rcases h with ⟨h0,_⟩|⟨_,u,he,hm⟩
  ·omega
  ·have:=nm_above (D:=D) hX.n0 hX.y0 hX.x0
   rw [this] at hm
   exact ⟨u,he,hm.1,hm.2⟩
set_option maxRecDepth 100000 in
set_option maxHeartbeats 8000000 in
theorem awake26 (w:World) (hE:Env w):Calls Tryz.prog 14 #[] w fun e w'=>e= .returned (.bool true)∧Below w.heap.size w w':=by
 have SP:=LH (tnparse exS (by rw [exS_size];decide) (fun N L h=>runs_exs h) w hE)
 clear hE
 go_enter Tryz.func14,Tryz.ntmps14
 go_upto_region 2 with (first
  |(go_at_call 45
    refine SP.out.mono ?_
    rintro e w1 ⟨NM,LM,k,er,NA,LA,cn,cl,hnt,rfl,hnd,hlk,hb1⟩
    obtain ⟨q1,q2,rfl,rfl⟩:=ntis_ex hnt
    obtain ⟨l1,l2,hex⟩:=ex_net q1 q2
    rw [l1] at hnd
    rw [l2] at hlk
    rw [l1,l2,show posN 0= .agg #[.int .i64 0,.int .i64 0] from rfl]
    clear hnt q1 q2 l1 l2
    generalize ndsM NM=D at hnd hex
    generalize lksM LM=K at hlk hex
    have HX:=LH hex
    have HND:=LH hnd
    have HLK:=LH hlk
    have HB1:=LH hb1
    clear hex hnd hlk hb1))
 clear SP
 have hal:Below w1.heap.size w1 ((w1.alloc (Obj.cells #[.slice NA 2 cn,.slice LA 1 cl] 25)).alloc (Obj.cells #[.int .i64 0,.int .i64 0] 73)):=((bR _ w1).alloc (nl _) _).alloc (by simp) _
 have HBX:Hid (Blk ((w1.alloc (Obj.cells #[.slice NA 2 cn,.slice LA 1 cl] 25)).alloc (Obj.cells #[.int .i64 0,.int .i64 0] 73)) w1.heap.size 25 #[.slice NA 2 cn,.slice LA 1 cl]):=(Blk.new _ _ _).alloc _
 have HAL:=LH hal
 clear hal
 generalize ((w1.alloc (Obj.cells #[.slice NA 2 cn,.slice LA 1 cl] 25)).alloc (Obj.cells #[.int .i64 0,.int .i64 0] 73))=w3 at HBX HAL⊢
 obtain ⟨y0,y1⟩:=blk2 HBX.out
 go_wp2_with (first
  |(go_at_call 36
    with_reducible refine (ex_valid HX.out (HND.out.below (nl _) HAL.out) (HLK.out.below (nl _) HAL.out)).mono ?_
    rintro e w4 ⟨rfl,hb⟩
    have HB4:=LH (zA1 HAL.out hb)
    have HX4:=LH (HBX.out.call hb)
    obtain ⟨y0,y1⟩:=blk2 HX4.out
    clear hb)
  |(go_at_call 16
    with_reducible refine (ex_edges HX.out (HND.out.below (nl _) HB4.out) (HLK.out.below (nl _) HB4.out)).mono ?_
    rintro e w5 ⟨A5,c5,rfl,ht5,hb⟩
    have HT5:=LH ht5
    have HB5:=LH (zA1 HB4.out hb)
    have HX5:=LH (HX4.out.call hb)
    obtain ⟨y0,y1⟩:=blk2 HX5.out
    clear hb ht5)
  |(go_at_call 17
    with_reducible refine (ex_order HX.out (HND.out.below (nl _) HB5.out) (HLK.out.below (nl _) HB5.out)).mono ?_
    rintro e w6 ⟨u6',rfl,ho6,hb⟩
    have HT6:=LH (HT5.out.below (nl _) hb)
    have HO6:=LH ho6
    have HB6:=LH (zA1 HB5.out hb)
    have HX6:=LH (HX5.out.call hb)
    obtain ⟨y0,y1⟩:=blk2 HX6.out
    clear hb ho6)
  |(go_at_call 24
    with_reducible refine (ex_below HX.out (HND.out.below (nl _) HB6.out) (HLK.out.below (nl _) HB6.out)).mono ?_
    rintro e w7 ⟨u7',rfl,ho7,hb⟩
    have HT7:=LH (HT6.out.below (nl _) hb)
    have HO7:=LH (zB7 HO6.out hb)
    have HP7:=LH ho7
    have HB7:=LH (zA1 HB6.out hb)
    have HX7:=LH (HX6.out.call hb)
    obtain ⟨y0,y1⟩:=blk2 HX7.out
    clear hb ho7)
  |(go_at_call 23
    with_reducible refine (ex_above HX.out (HND.out.below (nl _) HB7.out) (HLK.out.below (nl _) HB7.out)).mono ?_
    rintro e w8 ⟨u8',rfl,ho8,hb⟩
    have HT8:=LH (HT7.out.below (nl _) hb)
    have HO8:=LH (zB7 HO7.out hb)
    have HP8:=LH (zB7 HP7.out hb)
    have HQ8:=LH ho8
    have HB8:=LH (zA1 HB7.out hb)
    clear hb ho8)
  |(go_at_call 20
    with_reducible refine (eq_edge HT8.out HX.out.x0 HX.out.y0).mono ?_
    rintro e w9 ⟨rfl,hb⟩
    have HO9:=LH (zB7 HO8.out hb)
    have HP9:=LH (zB7 HP8.out hb)
    have HQ9:=LH (zB7 HQ8.out hb)
    have HB9:=LH (zA1 HB8.out hb)
    clear hb)
  |(go_at_call 22
    with_reducible refine (eq_ints HO9.out).mono ?_
    rintro e w10 ⟨rfl,hb⟩
    have HP10:=LH (zB7 HP9.out hb)
    have HQ10:=LH (zB7 HQ9.out hb)
    have HB10:=LH (zA1 HB9.out hb)
    clear hb)
  |(go_at_call 26
    with_reducible refine (eq_strs HP10.out).mono ?_
    rintro e w11 ⟨rfl,hb⟩
    have HQ11:=LH (zB7 HQ10.out hb)
    have HB11:=LH (zA1 HB10.out hb)
    clear hb HP10)
  |(go_at_call 26
    with_reducible refine (eq_strs HQ11.out).mono ?_
    rintro e w12 ⟨rfl,hb⟩
    have HB12:=LH (zA1 HB11.out hb)
    clear hb))
 go_ret
 exact ⟨rfl,zA1 HB1.out HB12.out⟩
end Go.Proofs.YtghefgifhebniaaGreatDoor

/- Merged texts of these proofs: Curve, NetP, Abb, NetE, NetL. -/
import Derived.Test.YtchakniaoeodmaaGreatDoorTabTwo
import Derived.Test.YtchakniaoeodmaaGreatDoorName
import Derived.Test.YtchakniaoeodmaaGreatDoorMgQ
import Derived.BigRegion
namespace Go.Proofs.YtchakniaoeodmaaGreatDoor
open Go.RowKit
set_option linter.unusedVariables false
set_option linter.unusedSimpArgs false
def CurveOK (n:Nat) (X Y:Nat→Int) (h most:Int):Prop:=TabOK n X Y∧X 0=0∧Y 0=0∧X (n - 1)=h∧Y (n - 1)≤most
noncomputable def boolOf (p:Prop):Bool:=@decide p (Classical.propDecidable p)
theorem zA2 {p:Prop} (h:p):boolOf p=true:=by unfold boolOf;exact @dU _ (Classical.propDecidable _) h
theorem zA0 {p:Prop} (h:¬p):boolOf p=false:=by unfold boolOf;exact @dF _ (Classical.propDecidable _) h
theorem zI3 {b:Bool} {p:Prop} (h:b=true↔p):b=boolOf p:=by
 by_cases hp:p
 ·rw [zA2 hp,h.2 hp]
 ·rw [zA0 hp];cases b with
  |false=>rfl
  |true=>exact absurd (h.1 rfl) hp
theorem zI0 {p:Prop} (h:boolOf p=true):p:=Classical.byContradiction fun hn=>by rw [zA0 hn] at h;cases h
def CellsAt (w:World) (b o:Nat) (vs:List Value):Prop:=∀i v,vs[i]?=some v→w.cell? ⟨b,o+i,none⟩=some v
theorem CellsAt.below {w w':World} {B b o:Nat} {vs:List Value} (h:CellsAt w b o vs) (hb:Below B w w') (hB:b<B):CellsAt w' b o vs:=fun i v hi=>(hb.cell (p:=⟨b,o+i,none⟩) hB).trans (h i v hi)
theorem Blk.cells {w:World} {g:Nat} {t:TypeId} {cs:Array Value} (h:Blk w g t cs):CellsAt w g 0 cs.toList:=fun i v hi=>by
 rw [Nat.zero_add,h.cell i]
 simpa using hi
structure Nds where
 Nm:Nat→ByteArray
 Kd:Nat→Int
 Ax:Nat→Int
 Ay:Nat→Int
 Iv:Nat→Int
 Gd:Nat→Int
 SA:Nat→Option Addr
 SN:Nat→Nat
 SC:Nat→Nat
 SX:Nat→Nat→Int
 SY:Nat→Nat→Int
 Pt:Nat→Bool
 Rs:Nat→Int
def Nds.vals (D:Nds) (k:Nat):List Value:=[.string (D.Nm k),.int .i64 (D.Kd k),.int .i64 (D.Ax k),.int .i64 (D.Ay k),.int .i64 (D.Iv k),.int .i64 (D.Gd k),.slice (D.SA k) (D.SN k) (D.SC k),.bool (D.Pt k),.int .i64 (D.Rs k)]
def NdAt (w:World) (b off n:Nat) (D:Nds):Prop:=b<w.heap.size∧∀k,k<n→CellsAt w b (off+k*9) (D.vals k)∧TabIn w (D.SA k) (D.SN k) (D.SX k) (D.SY k)
def NdIn (w:World) (A:Option Addr) (n:Nat) (D:Nds):Prop:=n≤9223372036854775807∧(n=0∨∃b off,A=some ⟨b,off,none⟩∧NdAt w b off n D)
theorem NdIn.below {w w':World} {B n:Nat} {A:Option Addr} {D:Nds} (h:NdIn w A n D) (hB:w.heap.size≤B) (hb:Below B w w'):NdIn w' A n D:=by
 refine ⟨h.1,?_⟩
 rcases h.2 with h0 |⟨b,off,hA,ht⟩
 ·exact .inl h0
 ·exact .inr ⟨b,off,hA,Nat.lt_of_lt_of_le ht.1 hb.size,fun k hk=>⟨(ht.2 k hk).1.below hb (Nat.lt_of_lt_of_le ht.1 hB),(ht.2 k hk).2.below hB hb⟩⟩
theorem NdIn.at {w:World} {A:Option Addr} {n k:Nat} {D:Nds} (h:NdIn w A n D) (hk:k<n):∃b off,A=some ⟨b,off,none⟩∧b<w.heap.size∧CellsAt w b (off+k*9) (D.vals k)∧TabIn w (D.SA k) (D.SN k) (D.SX k) (D.SY k):=by
 rcases h.2 with h0 |⟨b,off,hA,ht⟩
 ·omega
 ·exact ⟨b,off,hA,ht.1,ht.2 k hk⟩
structure Lks where
 Nm:Nat→ByteArray
 Fr:Nat→ByteArray
 To:Nat→ByteArray
 Kd:Nat→Int
 Ln:Nat→Int
 Up:Nat→Int
 Dn:Nat→Int
 Sc:Nat→ByteArray
 Wd:Nat→Int
 Ht:Nat→Int
 CA:Nat→Option Addr
 CN:Nat→Nat
 CC:Nat→Nat
 CX:Nat→Nat→Int
 CY:Nat→Nat→Int
def Lks.vals (D:Lks) (k:Nat):List Value:=[.string (D.Nm k),.string (D.Fr k),.string (D.To k),.int .i64 (D.Kd k),.int .i64 (D.Ln k),.int .i64 (D.Up k),.int .i64 (D.Dn k),.string (D.Sc k),.int .i64 (D.Wd k),.int .i64 (D.Ht k),.slice (D.CA k) (D.CN k) (D.CC k)]
def LkAt (w:World) (b off n:Nat) (D:Lks):Prop:=b<w.heap.size∧∀k,k<n→CellsAt w b (off+k*11) (D.vals k)∧TabIn w (D.CA k) (D.CN k) (D.CX k) (D.CY k)
def LkIn (w:World) (A:Option Addr) (n:Nat) (D:Lks):Prop:=n≤9223372036854775807∧(n=0∨∃b off,A=some ⟨b,off,none⟩∧LkAt w b off n D)
theorem LkIn.below {w w':World} {B n:Nat} {A:Option Addr} {D:Lks} (h:LkIn w A n D) (hB:w.heap.size≤B) (hb:Below B w w'):LkIn w' A n D:=by
 refine ⟨h.1,?_⟩
 rcases h.2 with h0 |⟨b,off,hA,ht⟩
 ·exact .inl h0
 ·exact .inr ⟨b,off,hA,Nat.lt_of_lt_of_le ht.1 hb.size,fun k hk=>⟨(ht.2 k hk).1.below hb (Nat.lt_of_lt_of_le ht.1 hB),(ht.2 k hk).2.below hB hb⟩⟩
theorem LkIn.at {w:World} {A:Option Addr} {n k:Nat} {D:Lks} (h:LkIn w A n D) (hk:k<n):∃b off,A=some ⟨b,off,none⟩∧b<w.heap.size∧CellsAt w b (off+k*11) (D.vals k)∧TabIn w (D.CA k) (D.CN k) (D.CX k) (D.CY k):=by
 rcases h.2 with h0 |⟨b,off,hA,ht⟩
 ·omega
 ·exact ⟨b,off,hA,ht.1,ht.2 k hk⟩
def IntIn (w:World) (A:Option Addr) (n:Nat) (C:Nat→Int):Prop:=n≤9223372036854775807∧(n=0∨∃b off,A=some ⟨b,off,none⟩∧b<w.heap.size∧∀k,k<n→w.cell? ⟨b,off+k,none⟩=some (.int .i64 (C k)))
theorem IntIn.below {w w':World} {B n:Nat} {A:Option Addr} {C:Nat→Int} (h:IntIn w A n C) (hB:w.heap.size≤B) (hb:Below B w w'):IntIn w' A n C:=by
 refine ⟨h.1,?_⟩
 rcases h.2 with h0 |⟨b,off,hA,h1,h2⟩
 ·exact .inl h0
 ·exact .inr ⟨b,off,hA,Nat.lt_of_lt_of_le h1 hb.size,fun k hk=>(hb.cell (p:=⟨b,off+k,none⟩) (Nat.lt_of_lt_of_le h1 hB)).trans (h2 k hk)⟩
theorem IntIn.at {w:World} {A:Option Addr} {n k:Nat} {C:Nat→Int} (h:IntIn w A n C) (hk:k<n):∃b off,A=some ⟨b,off,none⟩∧b<w.heap.size∧w.cell? ⟨b,off+k,none⟩=some (.int .i64 (C k)):=by
 rcases h.2 with h0 |⟨b,off,hA,h1,h2⟩
 ·omega
 ·exact ⟨b,off,hA,h1,h2 k hk⟩
def lvP (z:Int):Prop:= -4194304≤z∧z≤4194304
instance (z:Int):Decidable (lvP z):=by unfold lvP;exact inferInstance
def poP (z:Int):Prop:= -16777216≤z∧z≤16777216
instance (z:Int):Decidable (poP z):=by unfold poP;exact inferInstance
def zQ1 (nm:ByteArray) (kd ax ay iv gd:Int) (n:Nat) (X Y:Nat→Int) (pt:Bool) (rs:Int):Prop:=
 zD1 nm.data.toList=true∧poP ax∧poP ay∧(lvP iv∧lvP gd)∧
 ((kd=3∧iv≤gd∧n=0∧pt=false∧rs=0)∨
  ((kd=1∨kd=2)∧iv<gd∧CurveOK n X Y (gd - iv) 1125899906842624∧((pt=false∧rs=0)∨(pt=true∧kd=2∧0≤rs∧rs≤Y (n - 1)))))
def zT3 (n:Nat) (X Y:Nat→Int):Prop:=TabOK n X Y∧∀k,k<n→(0≤X k∧X k≤4194304)∧(0≤Y k∧Y k≤1099511627776)
def zR7 (nm fr tn:ByteArray) (kd ln up dn:Int) (sc:ByteArray) (wd ht:Int) (n:Nat) (X Y:Nat→Int):Prop:=
 zD1 nm.data.toList=true∧zD1 fr.data.toList=true∧zD1 tn.data.toList=true∧fr≠tn∧lvP up∧lvP dn∧
 ((kd=1∧(1≤ln∧ln≤16777216)∧zD1 sc.data.toList=true∧wd=0∧ht=0∧n=0)∨
  (kd=2∧ln=0∧dn=0∧sc.size=0∧(1≤wd∧wd≤1048576)∧ht=0∧n=0)∨
  (kd=3∧ln=0∧dn=0∧sc.size=0∧(1≤wd∧wd≤32768)∧(1≤ht∧ht≤32768)∧n=0)∨
  (kd=4∧ln=0∧dn<up∧sc.size=0∧wd=0∧ht=0∧zT3 n X Y))
abbrev cZc:Array Value:=#[.int .i64 0,.string ⟨#[]⟩,.int .i64 0,.int .i64 0,.int .i64 0,.int .i64 0,.int .i64 0,.slice none 0 0,.bool false,.int .i64 0,.string ⟨#[]⟩,.string ⟨#[]⟩,.string ⟨#[]⟩,.int .i64 0,.int .i64 0,.int .i64 0,.int .i64 0,.string ⟨#[]⟩,.int .i64 0,.int .i64 0,.slice none 0 0]
abbrev cLk (K:Lks) (i:Nat):Array Value:=#[.string (K.Nm i),.string (K.Fr i),.string (K.To i),.int .i64 (K.Kd i),.int .i64 (K.Ln i),.int .i64 (K.Up i),.int .i64 (K.Dn i),.string (K.Sc i),.int .i64 (K.Wd i),.int .i64 (K.Ht i),.slice (K.CA i) (K.CN i) (K.CC i)]
abbrev cNd (D:Nds) (i:Nat):Array Value:=#[.string (D.Nm i),.int .i64 (D.Kd i),.int .i64 (D.Ax i),.int .i64 (D.Ay i),.int .i64 (D.Iv i),.int .i64 (D.Gd i),.slice (D.SA i) (D.SN i) (D.SC i),.bool (D.Pt i),.int .i64 (D.Rs i)]
abbrev cLz (k:Int) (K:Lks) (i:Nat):Array Value:=#[.int .i64 k,.string ⟨#[]⟩,.int .i64 0,.int .i64 0,.int .i64 0,.int .i64 0,.int .i64 0,.slice none 0 0,.bool false,.int .i64 0,.string (K.Nm i),.string (K.Fr i),.string (K.To i),.int .i64 (K.Kd i),.int .i64 (K.Ln i),.int .i64 (K.Up i),.int .i64 (K.Dn i),.string (K.Sc i),.int .i64 (K.Wd i),.int .i64 (K.Ht i),.slice (K.CA i) (K.CN i) (K.CC i)]
abbrev cNz (k:Int) (D:Nds) (i:Nat):Array Value:=#[.int .i64 k,.string (D.Nm i),.int .i64 (D.Kd i),.int .i64 (D.Ax i),.int .i64 (D.Ay i),.int .i64 (D.Iv i),.int .i64 (D.Gd i),.slice (D.SA i) (D.SN i) (D.SC i),.bool (D.Pt i),.int .i64 (D.Rs i),.string ⟨#[]⟩,.string ⟨#[]⟩,.string ⟨#[]⟩,.int .i64 0,.int .i64 0,.int .i64 0,.int .i64 0,.string ⟨#[]⟩,.int .i64 0,.int .i64 0,.slice none 0 0]
abbrev cNm (k:Int) (s:ByteArray):Array Value:=#[.int .i64 k,.string s,.int .i64 0,.int .i64 0,.int .i64 0,.int .i64 0,.int .i64 0,.slice none 0 0,.bool false,.int .i64 0,.string ⟨#[]⟩,.string ⟨#[]⟩,.string ⟨#[]⟩,.int .i64 0,.int .i64 0,.int .i64 0,.int .i64 0,.string ⟨#[]⟩,.int .i64 0,.int .i64 0,.slice none 0 0]
theorem bx3 (w:World) (a b c:Array Value) (t u v:TypeId):∃W,Hid (((w.alloc (Obj.cells a t)).alloc (Obj.cells b u)).alloc (Obj.cells c v)=W)∧Hid (Below w.heap.size w W)∧Hid (Blk W w.heap.size t a)∧Hid (Blk W (w.heap.size+1) u b)∧Hid (Blk W (w.heap.size+2) v c)∧Hid (W.heap.size=w.heap.size+3):=by
 refine ⟨_,rfl,(((bR _ w).alloc (nl _) _).alloc (by simp) _).alloc (by simp<;> omega) _,((Blk.new _ _ _).alloc _).alloc _,?_,?_,by show _=_;simp⟩
 ·have h:=(Blk.new (w.alloc (Obj.cells a t)) u b).alloc (Obj.cells c v)
  rw [show (w.alloc (Obj.cells a t)).heap.size=w.heap.size+1 by simp] at h
  exact h
 ·have h:=Blk.new ((w.alloc (Obj.cells a t)).alloc (Obj.cells b u)) v c
  rw [show ((w.alloc (Obj.cells a t)).alloc (Obj.cells b u)).heap.size=w.heap.size+2 by simp] at h
  exact h
def zS9 (n:Nat) (X Y:Nat→Int) (m:Nat) (X' Y':Nat→Int):Prop:=n=m∧∀k,k<n→X k=X' k∧Y k=Y' k
theorem TabIn.at {w:World} {A:Option Addr} {n k:Nat} {X Y:Nat→Int} (h:TabIn w A n X Y) (hk:k<n):∃b off,A=some ⟨b,off,none⟩∧b<w.heap.size∧w.cell? ⟨b,off+k*2,none⟩=some (.int .i64 (X k))∧w.cell? ⟨b,off+k*2+1,none⟩=some (.int .i64 (Y k)):=by
 rcases h.2 with h0 |⟨b,off,hA,ht⟩
 ·omega
 ·exact ⟨b,off,hA,ht.1,(ht.2 k hk).1,(ht.2 k hk).2⟩
set_option maxHeartbeats 2000000 in
theorem tequal (A B:Option Addr) (n m c d:Nat) (X Y X' Y':Nat→Int) (w:World) (hA:TabIn w A n X Y) (hB:TabIn w B m X' Y'):
 Calls Tryz.prog 189 #[.slice A n c,.slice B m d] w fun e w'=>e= .returned (.bool (boolOf (zS9 n X Y m X' Y')))∧Below w.heap.size w w':=by
 have HA:=LH hA
 have HB:=LH hB
 have H2:=LH hA.1
 obtain ⟨f,hf⟩:∃f,Hid (f=boolOf (zS9 n X Y m X' Y')):=⟨_,rfl⟩
 rw [←hf.out]
 by_cases hnm:n=m
 case neg=>
  obtain rfl:f=false:=by rw [hf.out];exact zA0 fun h=>hnm h.1
  have t1:(n==m)=false:=by simpa using hnm
  have t2:(n !=m)=true:=by simpa using hnm
  have t3:((n:Int)==(m:Int))=false:=by rw [beq_eq_false_iff_ne];omega
  have t4:((n:Int)!=(m:Int))=true:=by simp;omega
  clear hA hB hnm hf
  go_enter Tryz.func189,Tryz.ntmps189
  go_wp2_with fail
  go_ret
  exact ⟨rfl,bR _ _⟩
 case pos=>
 subst hnm
 clear hA hB
 go_enter Tryz.func189,Tryz.ntmps189
 go_wp2_with fail
 go_loopw [13] (fun u wr=>∃i:Nat,Hid (i≤n)∧u= .int .i64 i∧Hid (∀j,j<i→X j=X' j∧Y j=Y' j)∧Hid (Below w.heap.size w wr)) (fun u _=>n - (RowKit.intOf u).toNat)
 case atStart=>exact ⟨0,Nat.zero_le _,rfl,fun j hj=>absurd hj (Nat.not_lt_zero _),bR _ _⟩
 case round=>
  obtain ⟨i,Hi,rfl,HG,HW⟩:=hrel
  by_cases hlt:i<n
  ·have T0:decide ((i:Int)<(n:Int))=true:=by simp<;> omega
   have T0':decide (i<n)=true:=dU hlt
   obtain ⟨i',hi'⟩:∃z,z=i+1:=⟨_,rfl⟩
   have x0:IntKind.i64.wrap ((i:Int)+1)=(i':Int):=by have:=H2.out;rw [IntKind.wrap_i64];omega
   have HI':Hid (i'≤n):=by show i'≤n;omega
   have HMS:Hid (n - (RowKit.intOf (Value.int .i64 (i':Int))).toNat<n - (RowKit.intOf (Value.int .i64 (i:Int))).toNat):=by show _<_;simp [RowKit.intOf];omega
   have k0:(0:Int)≤(i:Int):=by omega
   have k1:(i:Int)<(n:Int):=by omega
   obtain ⟨b1,o1,rfl,hb1,p0,p1⟩:=(HA.out.below (nl _) HW.out).at hlt
   obtain ⟨b2,o2,rfl,hb2,q0,q1⟩:=(HB.out.below (nl _) HW.out).at hlt
   have HLT:=LH hlt
   have HST:Hid (X i=X' i∧Y i=Y' i→∀j,j<i'→X j=X' j∧Y j=Y' j):=fun h j hj=>by
        rcases Nat.lt_or_ge j i with g |g
        ·exact HG.out j g
        ·have:j=i:=by omega
         rw [this];exact h
   have HNO:Hid (¬(X i=X' i∧Y i=Y' i)→f=false):=fun h=>by
        rw [hf.out];exact zA0 fun g=>h (g.2 i HLT.out)
   generalize X i=x at p0 HST HNO
   generalize Y i=y at p1 HST HNO
   generalize X' i=x' at q0 HST HNO
   generalize Y' i=y' at q1 HST HNO
   clear hi' hlt
   by_cases hx:x=x'
   ·subst hx
    by_cases hy:y=y'
    ·subst hy
     go_wp2_with fail
     go_quiet (fail)
     go_wp2_with fail
     go_roundw
     case rel=>exact ⟨i',HI',rfl,HST.out (by simp),zD0 HW.out _⟩
     case measure=>exact HMS.out
    ·have t1:(y==y')=false:=by simpa using hy
     have t2:(y !=y')=true:=by simpa using hy
     obtain rfl:f=false:=HNO.out (by simpa using hy)
     clear hy
     go_wp2_with fail
     go_quiet (fail)
     go_wp2_with fail
     go_ret
     exact ⟨rfl,zD0 HW.out _⟩
   ·have t1:(x==x')=false:=by simpa using hx
    have t2:(x !=x')=true:=by simpa using hx
    obtain rfl:f=false:=HNO.out fun h=>hx h.1
    clear hx
    go_wp2_with fail
    go_quiet (fail)
    go_wp2_with fail
    go_ret
    exact ⟨rfl,zD0 HW.out _⟩
  ·have hin:i=n:=by have:=Hi.out;omega
   have T0:decide ((i:Int)<(n:Int))=false:=by simp<;> omega
   have T0':decide (i<n)=false:=dF hlt
   obtain rfl:f=true:=by rw [hf.out];exact zA2 ⟨rfl,by rw [←hin];exact HG.out⟩
   clear hlt hin
   go_wp2_with fail
   go_ret
   exact ⟨rfl,HW.out⟩
set_option maxRecDepth 100000 in
set_option maxHeartbeats 2000000 in
theorem nplain1 (nm fr tn:ByteArray) (ln up dn:Int) (sc:ByteArray) (wd ht:Int) (A:Option Addr) (n c:Nat) (w:World):
 Calls Tryz.prog 157 #[.agg #[.string nm,.string fr,.string tn,.int .i64 1,.int .i64 ln,.int .i64 up,.int .i64 dn,.string sc,.int .i64 wd,.int .i64 ht,.slice A n c]] w fun e w'=>e= .returned (.agg #[.string nm,.string fr,.string tn,.int .i64 1,.int .i64 ln,.int .i64 up,.int .i64 dn,.string sc,.int .i64 0,.int .i64 0,.slice none 0 0])∧Below w.heap.size w w':=by
 go_enter Tryz.func157,Tryz.ntmps157
 go_wp2_with fail
 all_goals go_region
 all_goals go_wp2_with fail
 all_goals (refine bodyPost_ret (v:=.agg #[.string nm,.string fr,.string tn,.int .i64 1,.int .i64 ln,.int .i64 up,.int .i64 dn,.string sc,.int .i64 0,.int .i64 0,.slice none 0 0]) (by simp [results,Tryz.results157,go_sem]) rfl ⟨rfl,?_⟩)
 all_goals (exact bel)
set_option maxRecDepth 100000 in
set_option maxHeartbeats 2000000 in
theorem nplain2 (nm fr tn:ByteArray) (ln up dn:Int) (sc:ByteArray) (wd ht:Int) (A:Option Addr) (n c:Nat) (w:World):
 Calls Tryz.prog 157 #[.agg #[.string nm,.string fr,.string tn,.int .i64 2,.int .i64 ln,.int .i64 up,.int .i64 dn,.string sc,.int .i64 wd,.int .i64 ht,.slice A n c]] w fun e w'=>e= .returned (.agg #[.string nm,.string fr,.string tn,.int .i64 2,.int .i64 0,.int .i64 up,.int .i64 0,.string ⟨#[]⟩,.int .i64 wd,.int .i64 0,.slice none 0 0])∧Below w.heap.size w w':=by
 go_enter Tryz.func157,Tryz.ntmps157
 go_wp2_with fail
 all_goals (refine bodyPost_ret (v:=.agg #[.string nm,.string fr,.string tn,.int .i64 2,.int .i64 0,.int .i64 up,.int .i64 0,.string ⟨#[]⟩,.int .i64 wd,.int .i64 0,.slice none 0 0]) (by simp [results,Tryz.results157,go_sem]) rfl ⟨rfl,?_⟩)
 all_goals (exact bel)
set_option maxRecDepth 100000 in
set_option maxHeartbeats 2000000 in
theorem nplain3 (nm fr tn:ByteArray) (ln up dn:Int) (sc:ByteArray) (wd ht:Int) (A:Option Addr) (n c:Nat) (w:World):
 Calls Tryz.prog 157 #[.agg #[.string nm,.string fr,.string tn,.int .i64 3,.int .i64 ln,.int .i64 up,.int .i64 dn,.string sc,.int .i64 wd,.int .i64 ht,.slice A n c]] w fun e w'=>e= .returned (.agg #[.string nm,.string fr,.string tn,.int .i64 3,.int .i64 0,.int .i64 up,.int .i64 0,.string ⟨#[]⟩,.int .i64 wd,.int .i64 ht,.slice none 0 0])∧Below w.heap.size w w':=by
 go_enter Tryz.func157,Tryz.ntmps157
 go_wp2_with fail
 all_goals go_region
 all_goals go_wp2_with fail
 all_goals (refine bodyPost_ret (v:=.agg #[.string nm,.string fr,.string tn,.int .i64 3,.int .i64 0,.int .i64 up,.int .i64 0,.string ⟨#[]⟩,.int .i64 wd,.int .i64 ht,.slice none 0 0]) (by simp [results,Tryz.results157,go_sem]) rfl ⟨rfl,?_⟩)
 all_goals (exact bel)
set_option maxRecDepth 100000 in
set_option maxHeartbeats 2000000 in
theorem nplain4 (nm fr tn:ByteArray) (ln up dn:Int) (sc:ByteArray) (wd ht:Int) (A:Option Addr) (n c:Nat) (w:World):
 Calls Tryz.prog 157 #[.agg #[.string nm,.string fr,.string tn,.int .i64 4,.int .i64 ln,.int .i64 up,.int .i64 dn,.string sc,.int .i64 wd,.int .i64 ht,.slice A n c]] w fun e w'=>e= .returned (.agg #[.string nm,.string fr,.string tn,.int .i64 4,.int .i64 0,.int .i64 up,.int .i64 dn,.string ⟨#[]⟩,.int .i64 0,.int .i64 0,.slice A n c])∧Below w.heap.size w w':=by
 go_enter Tryz.func157,Tryz.ntmps157
 go_wp2_with fail
 all_goals go_region
 all_goals go_wp2_with fail
 all_goals (refine bodyPost_ret (v:=.agg #[.string nm,.string fr,.string tn,.int .i64 4,.int .i64 0,.int .i64 up,.int .i64 dn,.string ⟨#[]⟩,.int .i64 0,.int .i64 0,.slice A n c]) (by simp [results,Tryz.results157,go_sem]) rfl ⟨rfl,?_⟩)
 all_goals (exact bel)
set_option maxRecDepth 100000 in
set_option maxHeartbeats 2000000 in
theorem nplain0 (nm fr tn:ByteArray) (kd ln up dn:Int) (sc:ByteArray) (wd ht:Int) (A:Option Addr) (n c:Nat) (h1:kd≠1) (h2:kd≠2) (h3:kd≠3) (h4:kd≠4) (w:World):
 Calls Tryz.prog 157 #[.agg #[.string nm,.string fr,.string tn,.int .i64 kd,.int .i64 ln,.int .i64 up,.int .i64 dn,.string sc,.int .i64 wd,.int .i64 ht,.slice A n c]] w fun e w'=>e= .returned (.agg #[.string nm,.string fr,.string tn,.int .i64 kd,.int .i64 0,.int .i64 up,.int .i64 0,.string ⟨#[]⟩,.int .i64 0,.int .i64 0,.slice none 0 0])∧Below w.heap.size w w':=by
 have t1:(kd==1)=false:=by simpa using h1
 have t2:(kd==2)=false:=by simpa using h2
 have t3:(kd==3)=false:=by simpa using h3
 have t4:(kd==4)=false:=by simpa using h4
 clear h1 h2 h3 h4
 go_enter Tryz.func157,Tryz.ntmps157
 go_wp2_with fail
 all_goals (refine bodyPost_ret (v:=.agg #[.string nm,.string fr,.string tn,.int .i64 kd,.int .i64 0,.int .i64 up,.int .i64 0,.string ⟨#[]⟩,.int .i64 0,.int .i64 0,.slice none 0 0]) (by simp [results,Tryz.results157,go_sem]) rfl ⟨rfl,?_⟩)
 all_goals (exact bel)
end Go.Proofs.YtchakniaoeodmaaGreatDoor

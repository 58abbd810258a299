/- Merged texts of these proofs: ScI, ScT, ScS. -/
import Derived.Test.YtchakniaoeodmaaGreatDoorMgM
import Derived.Deep.MidRow
namespace Go.Proofs.YtchakniaoeodmaaGreatDoor
open Go.RowKit
set_option linter.unusedVariables false
set_option linter.unusedSimpArgs false
theorem zX9 {P:Program} {ops:Array Oper} {rest:List Oper} {op:Oper} {a:Act} {w:World} {Q:Exit→Act→World→Prop} (hw:Region.wanted op (yielded ops a.tmps)=true) (ty:TypeId) (x:Operand) (ho:op.op= .load ty x)
 (b o:Nat) (hx:a.eval x= .pointer (some ⟨b,o,none⟩)) (cs:List Value) (d:TypeDesc) (hc:w.rangeAt b o cs)
 (hu:P.underlying ty=some d) (hd:d.isRow=true) (hi:(P.info? ty).map (·.size)=some cs.length)
 (h:wpList P ops Q rest (a.put op.dst (.agg cs.toArray)) w):wpList P ops Q (op::rest) a w:=
 BigFrame.wpList_want hw fun _ hK=>wp_load_mid ty x ho b o hx cs d hc hu hd hi (hK _ _ h)
theorem zY0 {P:Program} {ops:Array Oper} {rest:List Oper} {op:Oper} {a:Act} {w:World} {Q:Exit→Act→World→Prop} (hw:Region.wanted op (yielded ops a.tmps)=true) (ty:TypeId) (x:Operand) (ho:op.op= .load ty x)
 (g:Nat) (hx:a.eval x= .pointer (some ⟨g,0,none⟩)) (cs:Array Value) (t:TypeId) (hb:Blk w g t cs) (d:TypeDesc)
 (hu:P.underlying ty=some d) (hd:d.isRow=true) (hi:(P.info? ty).map (·.size)=some cs.size)
 (h:wpList P ops Q rest (a.put op.dst (.agg cs)) w):wpList P ops Q (op::rest) a w:=
 zX9 hw ty x ho g 0 hx cs.toList d hb.cells hu hd (by simpa using hi) (by simpa using h)
theorem ChsIn.row {w:World} {A:Option Addr} {n i:Nat} {Kd:Nat→Int} {D:Nds} {K:Lks} (h:ChsIn w A n Kd D K) (hi:i<n):∃b off,A=some ⟨b,off,none⟩∧b<w.heap.size∧w.rangeAt b (off+i*21) [.int .i64 (Kd i),.string (D.Nm i),.int .i64 (D.Kd i),.int .i64 (D.Ax i),.int .i64 (D.Ay i),.int .i64 (D.Iv i),.int .i64 (D.Gd i),.slice (D.SA i) (D.SN i) (D.SC i),.bool (D.Pt i),.int .i64 (D.Rs i),.string (K.Nm i),.string (K.Fr i),.string (K.To i),.int .i64 (K.Kd i),.int .i64 (K.Ln i),.int .i64 (K.Up i),.int .i64 (K.Dn i),.string (K.Sc i),.int .i64 (K.Wd i),.int .i64 (K.Ht i),.slice (K.CA i) (K.CN i) (K.CC i)]:=by
 obtain ⟨b,off,rfl,hb,hc,_⟩:=h.at hi
 exact ⟨b,off,rfl,hb,hc⟩
set_option maxRecDepth 100000 in
set_option maxHeartbeats 4000000 in
theorem cfind_T1 (A:Option Addr) (n c k:Nat) (Kd:Nat→Int) (D:Nds) (K:Lks) (p:Nat→Bool) (w:World) (h2:n≤2000) (ht:ChsIn w A n Kd D K) (hk:FirstAt p n k) (v:Int) (hv:v=if k<n then (k:Int) else -1)
 (SP:∀i,i<n→∀w',Below w.heap.size w w'→Calls Tryz.prog 56 #[.agg #[.int .i64 (Kd i),.string (D.Nm i),.int .i64 (D.Kd i),.int .i64 (D.Ax i),.int .i64 (D.Ay i),.int .i64 (D.Iv i),.int .i64 (D.Gd i),.slice (D.SA i) (D.SN i) (D.SC i),.bool (D.Pt i),.int .i64 (D.Rs i),.string (K.Nm i),.string (K.Fr i),.string (K.To i),.int .i64 (K.Kd i),.int .i64 (K.Ln i),.int .i64 (K.Up i),.int .i64 (K.Dn i),.string (K.Sc i),.int .i64 (K.Wd i),.int .i64 (K.Ht i),.slice (K.CA i) (K.CN i) (K.CC i)]] w' fun e w''=>e= .returned (.bool (p i))∧Below w'.heap.size w' w''):
 Calls Tryz.prog 42 #[.slice A n c,.func (.func 56) #[] #[]] w fun e w'=>e= .returned (.int .i64 v)∧Below w.heap.size w w':=by
 have HT:=LH ht
 have HK:=LH hk
 have H2:=LH h2
 have HV:=LH hv
 have HSP:=LH SP
 clear ht hk h2 hv SP
 go_enter Tryz.func42,Tryz.ntmps42
 go_wp2_with fail
 go_loopw [8] (fun u wr=>∃i:Nat,Hid (i≤n∧i≤k)∧u= .int .i64 i∧Hid (Below w.heap.size w wr)) (fun u _=>n - (RowKit.intOf u).toNat)
 case atStart=>exact ⟨0,⟨Nat.zero_le _,Nat.zero_le _⟩,rfl,bR _ _⟩
 case round=>
  obtain ⟨i,Hi,rfl,HW⟩:=hrel
  by_cases hlt:i<n
  ·have T0:decide ((i:Int)<(n:Int))=true:=by simp<;> omega
   have T0':decide (i<n)=true:=dU hlt
   obtain ⟨i',hi'⟩:∃z,z=i+1:=⟨_,rfl⟩
   have x0:IntKind.i64.wrap ((i:Int)+1)=(i':Int):=by have:=H2.out;rw [IntKind.wrap_i64];omega
   obtain ⟨b,off,rfl,hb,hC⟩:=(HT.out.below (nl _) HW.out).row hlt
   have HC:=LH hC
   have k0:(0:Int)≤(i:Int):=by omega
   have k1:(i:Int)<(n:Int):=by omega
   have HMS:Hid (n - (RowKit.intOf (Value.int .i64 (i':Int))).toNat<n - (RowKit.intOf (Value.int .i64 (i:Int))).toNat):=by show _<_;simp [RowKit.intOf];omega
   have KK:=LH (HSP.out i hlt wr HW.out)
   rcases zD7 HK.out hlt Hi.out.2 with ⟨hp,hik⟩|⟨hp,hik⟩
   ·rw [hp] at KK
    have HR:Hid ((i:Int)=v):=by show (i:Int)=v;rw [HV.out,hik,if_pos (by omega)]
    clear hi' hp hik hC hb
    go_wp2_with (first
     |(refine wpList_load_mid rfl 34 (.tmp 14) rfl b (off+i*21) rfl _ _ HC.out Tryz.underlying34 rfl (by kernel_rfl) ?_)
     |(go_at_call 56
       with_reducible refine KK.out.mono ?_
       rintro e w4 ⟨rfl,hb4⟩
       have HB4:=LH (zA1 HW.out hb4)
       clear hb4))
    go_ret
    exact ⟨zC3 HR.out,HB4.out⟩
   ·rw [hp] at KK
    have HI':Hid (i'≤n∧i'≤k):=by show _∧_;omega
    clear hi' hp hik hC hb
    go_wp2_with (first
     |(refine wpList_load_mid rfl 34 (.tmp 14) rfl b (off+i*21) rfl _ _ HC.out Tryz.underlying34 rfl (by kernel_rfl) ?_)
     |(go_at_call 56
       with_reducible refine KK.out.mono ?_
       rintro e w4 ⟨rfl,hb4⟩
       have HB4:=LH (zA1 HW.out hb4)
       clear hb4))
    go_roundw
    case rel=>exact ⟨i',HI',rfl,HB4⟩
    case measure=>exact HMS.out
  ·have e:i=n:=by have:=Hi.out;omega
   have HR:Hid ((-1:Int)=v):=by show (-1:Int)=v;rw [HV.out,if_neg (by have:=Hi.out;omega)]
   have T0:decide ((i:Int)<(n:Int))=false:=by simp<;> omega
   have T0':decide (i<n)=false:=dF hlt
   clear e hlt
   go_wp2_with fail
   go_ret
   exact ⟨zC3 HR.out,HW.out⟩
theorem chas_T1 (A:Option Addr) (n c:Nat) (Kd:Nat→Int) (D:Nds) (K:Lks) (p:Nat→Bool) (w:World) (h2:n≤2000) (ht:ChsIn w A n Kd D K) (f:Bool) (hf:f=true↔∃j,j<n∧p j=true)
 (SP:∀i,i<n→∀w',Below w.heap.size w w'→Calls Tryz.prog 56 #[.agg #[.int .i64 (Kd i),.string (D.Nm i),.int .i64 (D.Kd i),.int .i64 (D.Ax i),.int .i64 (D.Ay i),.int .i64 (D.Iv i),.int .i64 (D.Gd i),.slice (D.SA i) (D.SN i) (D.SC i),.bool (D.Pt i),.int .i64 (D.Rs i),.string (K.Nm i),.string (K.Fr i),.string (K.To i),.int .i64 (K.Kd i),.int .i64 (K.Ln i),.int .i64 (K.Up i),.int .i64 (K.Dn i),.string (K.Sc i),.int .i64 (K.Wd i),.int .i64 (K.Ht i),.slice (K.CA i) (K.CN i) (K.CC i)]] w' fun e w''=>e= .returned (.bool (p i))∧Below w'.heap.size w' w''):
 Calls Tryz.prog 11 #[.slice A n c,.func (.func 56) #[] #[]] w fun e w'=>e= .returned (.bool f)∧Below w.heap.size w w':=by
 obtain ⟨k,hk⟩:=zG8 p n
 have hany:=zF9 hk
 have S:=LH (cfind_T1 A n c k Kd D K p w h2 ht hk _ rfl SP)
 by_cases hkn:k<n
 ·have hft:f=true:=hf.2 (hany.1 hkn)
  rw [if_pos hkn] at S
  have t:decide ((0:Int)≤(k:Int))=true:=dU (by omega)
  subst hft
  clear hk hany hkn hf ht h2 SP
  go_enter Tryz.func11,Tryz.ntmps11
  go_wp2_with (first |(go_at_call 42;(with_reducible refine (S.out).mono ?_);rintro e w1 ⟨rfl,hb1⟩;obtain ⟨hc1,hf1⟩:=zA8 hb1;have hz1:=hb1.size;(try simp at hz1);(try simp only [heap_drew,World.heap_drewN] at hz1 hc1 hf1);(try have hs1:=Nat.lt_of_succ_le hz1);(try have hs2:=Nat.lt_of_succ_lt hs1);(try have y0:w.heap.size<w1.heap.size:=by omega);(try have y1:w.heap.size+1<w1.heap.size:=by omega);(try have y2:w.heap.size+2<w1.heap.size:=by omega)))
  go_ret
  refine ⟨rfl,?_⟩
  exact bel
 ·have hft:f=false:=by
   cases f with
   |false=>rfl
   |true=>exact absurd (hany.2 (hf.1 rfl)) hkn
  rw [if_neg hkn] at S
  subst hft
  clear hk hany hkn hf ht h2 SP
  go_enter Tryz.func11,Tryz.ntmps11
  go_wp2_with (first |(go_at_call 42;(with_reducible refine (S.out).mono ?_);rintro e w1 ⟨rfl,hb1⟩;obtain ⟨hc1,hf1⟩:=zA8 hb1;have hz1:=hb1.size;(try simp at hz1);(try simp only [heap_drew,World.heap_drewN] at hz1 hc1 hf1);(try have hs1:=Nat.lt_of_succ_le hz1);(try have hs2:=Nat.lt_of_succ_lt hs1);(try have y0:w.heap.size<w1.heap.size:=by omega);(try have y1:w.heap.size+1<w1.heap.size:=by omega);(try have y2:w.heap.size+2<w1.heap.size:=by omega)))
  go_ret
  refine ⟨rfl,?_⟩
  exact bel
set_option maxRecDepth 100000 in
set_option maxHeartbeats 8000000 in
theorem sc_right3 (i j:Nat) (C:Nds) (E:Lks) (w:World) (V:Bool) (hsz:((C.Nm i)).size≤maxLen) (hV:zD1 ((C.Nm i)).data.toList=V):
 Calls Tryz.prog 51 #[.agg (chA 3 C i E j)] w fun e w'=>e= .returned (.bool V)∧Below w.heap.size w w':=by
 have HX:Hid (Blk (w.alloc (Obj.cells (chA 3 C i E j) 34)) w.heap.size 34 (chA 3 C i E j)):=Blk.new _ _ _
 have HAL:Hid (Below w.heap.size w (w.alloc (Obj.cells (chA 3 C i E j) 34))):=(bR _ w).alloc (nl _) _
 have SNm:Hid (∀w',Calls Tryz.prog 53 #[.agg (chA 3 C i E j)] w' fun e w''=>e= .returned (.string (C.Nm i))∧Below w'.heap.size w' w''):=fun w'=>by
  have h:=sc_name 3 i j C E w'
  simpa using h
 have SN0:=zQ9 (C.Nm i) hsz
 rw [hV] at SN0
 have SN:=LH SN0
 clear hV SN0 hsz
 go_enter Tryz.func51,Tryz.ntmps51
 go_upto_region 1 with fail
 generalize w.alloc (Obj.cells (chA 3 C i E j) 34)=W at HX HAL⊢
 have e0:=HX.out.cell 0
 simp only [chA,List.getElem?_toArray,List.getElem?_cons_zero,List.getElem?_cons_succ] at e0
 go_wp2_with (first
  |(refine wpList_load_row rfl 34 (.tmp 1) rfl _ rfl _ _ (0,0) _ HX.out Tryz.underlying34 rfl (by kernel_rfl) ?_)
  |(go_at_call 53
    with_reducible refine (SNm.out _).mono ?_
    rintro e w4 ⟨rfl,hb4⟩
    have HB4:=LH (zA1 HAL.out hb4)
    clear hb4)
  |(go_at_call 98;(with_reducible refine (SN.out _).mono ?_);rintro e w' ⟨rfl,rfl⟩))
 go_ret
 exact ⟨rfl,HB4.out⟩
set_option maxRecDepth 100000 in
set_option maxHeartbeats 8000000 in
theorem sc_line3 (i j:Nat) (C:Nds) (E:Lks) (w:World) (hsz:((C.Nm i)).size≤3000):
 Calls Tryz.prog 58 #[.agg (chA 3 C i E j)] w fun e w'=>e= .returned (.tuple #[.string ((⟨#[100,114,111,112,32,110,111,100,101,32]⟩++(C.Nm i))++⟨#[10]⟩),.int .i64 0])∧Below w.heap.size w w':=by
 have HX:Hid (Blk (w.alloc (Obj.cells (chA 3 C i E j) 34)) w.heap.size 34 (chA 3 C i E j)):=Blk.new _ _ _
 have HAL:Hid (Below w.heap.size w (w.alloc (Obj.cells (chA 3 C i E j) 34))):=(bR _ w).alloc (nl _) _
 have z1:(((C.Nm i)).size:Int)≤8388608:=by omega
 have z2:((⟨#[100,114,111,112,32,110,111,100,101,32]⟩:ByteArray).size:Int)≤8388608:=by decide
 have z3:((⟨#[10]⟩:ByteArray).size:Int)≤8388608:=by decide
 have z4:(((⟨#[100,114,111,112,32,110,111,100,101,32]⟩:ByteArray)++(C.Nm i)).size:Int)≤8388608:=by
  have:((⟨#[100,114,111,112,32,110,111,100,101,32]⟩:ByteArray)++(C.Nm i)).size=10+((C.Nm i)).size:=by rw [ByteArray.size_append];rfl
  rw [this];omega
 clear hsz
 go_enter Tryz.func58,Tryz.ntmps58
 go_upto_region 1 with fail
 generalize w.alloc (Obj.cells (chA 3 C i E j) 34)=W at HX HAL⊢
 have e0:=HX.out.cell 0
 have e1:=HX.out.cell 1
 simp only [chA,List.getElem?_toArray,List.getElem?_cons_zero,List.getElem?_cons_succ] at e0 e1
 go_wp2_with fail
 go_ret2
 exact ⟨rfl,HAL.out⟩
set_option maxRecDepth 100000 in
set_option maxHeartbeats 8000000 in
theorem sc_text1 (kd:Int) (i j:Nat) (C:Nds) (E:Lks) (w:World) (R P:Bool) (SR0:∀w',Below w.heap.size w w'→Calls Tryz.prog 51 #[.agg (chA kd C i E j)] w' fun e w''=>e= .returned (.bool R)∧Below w'.heap.size w' w'') (SP0:∀w',Below w.heap.size w w'→Calls Tryz.prog 57 #[.agg (chA kd C i E j)] w' fun e w''=>e= .returned (.bool P)∧Below w'.heap.size w' w''):
 Calls Tryz.prog 56 #[.agg (chA kd C i E j)] w fun e w'=>e= .returned (.bool (!R || !P))∧Below w.heap.size w w':=by
 have SR:=LH SR0
 have SP:=LH SP0
 clear SR0 SP0
 have HX:Hid (Blk (w.alloc (Obj.cells (chA kd C i E j) 34)) w.heap.size 34 (chA kd C i E j)):=Blk.new _ _ _
 have HAL:Hid (Below w.heap.size w (w.alloc (Obj.cells (chA kd C i E j) 34))):=(bR _ w).alloc (nl _) _
 cases R<;> cases P
 all_goals
  go_enter Tryz.func56,Tryz.ntmps56
  go_upto_region 1 with fail
  generalize w.alloc (Obj.cells (chA kd C i E j) 34)=W at HX HAL⊢
  go_wp2_with (first
   |(refine wpList_load_row rfl 34 (.tmp 1) rfl _ rfl _ _ (0,0) _ HX.out Tryz.underlying34 rfl (by kernel_rfl) ?_)
   |(refine zY0 rfl 34 (.tmp 1) rfl w.heap.size rfl _ _ HX4.out _ Tryz.underlying34 rfl (by kernel_rfl) ?_)
   |(go_at_call 51
     with_reducible refine (SR.out _ HAL.out).mono ?_
     rintro e w4 ⟨rfl,hb4⟩
     have HX4:=LH (HX.out.call hb4)
     have HB4:=LH (zA1 HAL.out hb4)
     clear hb4)
   |(go_at_call 57
     with_reducible refine (SP.out _ HB4.out).mono ?_
     rintro e w5 ⟨rfl,hb5⟩
     have HB5:=LH (zA1 HB4.out hb5)
     clear hb5))
  go_ret
  exact ⟨rfl,by first |exact HB5.out |exact HB4.out⟩
def flS (S:Nat→List UInt8) (n:Nat):List UInt8:=(List.range n).flatMap S
theorem flS_succ (S:Nat→List UInt8) (n:Nat):flS S (n+1)=flS S n++S n:=by unfold flS;rw [List.range_succ,List.flatMap_append];simp
theorem flS_len {S:Nat→List UInt8} {n:Nat} (h:∀k,k<n→(S k).length≤3000):(flS S n).length≤n*3000:=by
 induction n with
 |zero=>simp [flS]
 |succ n ih=>
  rw [flS_succ,List.length_append]
  have:=ih fun k hk=>h k (by omega)
  have:=h n (by omega)
  omega
set_option maxRecDepth 100000 in
set_option maxHeartbeats 8000000 in
theorem sc_text (A:Option Addr) (n c:Nat) (Kd:Nat→Int) (D:Nds) (K:Lks) (S:Nat→List UInt8) (w:World) (h2:n≤100) (ht:ChsIn w A n Kd D K) (hS:∀k,k<n→(S k).length≤3000)
 (SP0:∀i,i<n→∀w',Below w.heap.size w w'→Calls Tryz.prog 56 #[.agg (chA (Kd i) D i K i)] w' fun e w''=>e= .returned (.bool false)∧Below w'.heap.size w' w'')
 (SL0:∀i,i<n→∀w',Below w.heap.size w w'→Calls Tryz.prog 58 #[.agg (chA (Kd i) D i K i)] w' fun e w''=>e= .returned (.tuple #[.string ⟨(S i).toArray⟩,.int .i64 0])∧Below w'.heap.size w' w''):
 Calls Tryz.prog 19 #[.slice A n c] w fun e w'=>e= .returned (.tuple #[.string ⟨(flS S n).toArray⟩,.int .i64 0])∧Below w.heap.size w w':=by
 have HT:=LH ht
 have H2:=LH h2
 have HS:=LH hS
 have SL:=LH SL0
 have SC:=LH (chas_T1 A n c Kd D K (fun _=>false) w (by omega) ht false ⟨fun h=>(by cases h),fun ⟨_,_,h⟩=>h⟩ SP0)
 have t1:decide ((1000:Int)<(n:Int))=false:=dF (by omega)
 have t2:decide (1000<n)=false:=dF (by omega)
 clear ht h2 hS SP0 SL0
 go_enter Tryz.func19,Tryz.ntmps19
 go_upto_region 5 with (first
  |(go_at_call 11
    with_reducible refine SC.out.mono ?_
    rintro e w2 ⟨rfl,hb2⟩
    have HB2:=LH hb2
    clear hb2))
 obtain ⟨b,hb⟩:∃b,w2.heap.size=b:=⟨_,rfl⟩
 have HM0:Hid (BAt w.heap.size b (flS S 0) (w2.alloc (.cells #[.pointer none,.slice none 0 0] 106))∧Below w.heap.size w (w2.alloc (.cells #[.pointer none,.slice none 0 0] 106))):=⟨by rw [←hb];exact BAt.new w2 HB2.out.size,HB2.out.alloc HB2.out.size _⟩
 clear HB2 SC
 go_upto_region 6 with fail
 try rw [hb]
 clear hb
 generalize w2.alloc (.cells #[.pointer none,.slice none 0 0] 106)=w3 at HM0⊢
 go_wp2_with fail
 go_loopw [16] (fun u wr=>∃i:Nat,Hid (i≤n)∧u= .int .i64 i∧Hid (BAt w.heap.size b (flS S i) wr∧Below w.heap.size w wr)) (fun u _=>n - (RowKit.intOf u).toNat)
 case atStart=>exact ⟨0,Nat.zero_le _,rfl,HM0⟩
 case round=>
  clear HM0
  obtain ⟨i,Hi,rfl,HM⟩:=hrel
  by_cases hlt:i<n
  case neg=>
   have T0:decide ((i:Int)<(n:Int))=false:=by simp<;> omega
   have T0':decide (i<n)=false:=dF hlt
   have e:i=n:=by have:=Hi.out;omega
   subst e
   have SS:=LH fun w'=>fun h h2=>Tryz.Builder_String_any_k w.heap.size b (flS S i) w' h h2
   clear hlt
   go_wp2_with (first
        |(go_at_call 60
          refine (SS.out _ HM.out.1 HM.out.2.size).mono ?_
          rintro e wz ⟨rfl,hz1,hz2,hz3⟩
          have HZ:=LH (HM.out.2.trans hz2)
          clear hz1 hz2 hz3))
   go_ret2
   exact ⟨rfl,HZ.out⟩
  have T0:decide ((i:Int)<(n:Int))=true:=by simp<;> omega
  have T0':decide (i<n)=true:=dU hlt
  obtain ⟨i',hi'⟩:∃z,z=i+1:=⟨_,rfl⟩
  have x0:IntKind.i64.wrap ((i:Int)+1)=(i':Int):=by have:=H2.out;rw [IntKind.wrap_i64];omega
  have k0:(0:Int)≤(i:Int):=by omega
  have k1:(i:Int)<(n:Int):=by omega
  have HMS:Hid (n - (RowKit.intOf (Value.int .i64 (i':Int))).toNat<n - (RowKit.intOf (Value.int .i64 (i:Int))).toNat):=by show _<_;simp [RowKit.intOf];omega
  have HI':Hid (i'≤n):=by show _≤_;omega
  have HEQ:Hid (flS S i'=flS S i++S i):=by show _=_;rw [hi',flS_succ]
  have hln:=flS_len (S:=S) (n:=i) fun k hk=>HS.out k (by omega)
  have HLN:Hid ((flS S i).length+(S i).length≤140737488355328):=by show _≤_;have:=HS.out i hlt;have:=H2.out;omega
  obtain ⟨bk,off,rfl,hbk,hC⟩:=(HT.out.below (nl _) HM.out.2).row hlt
  have HC:=LH hC
  have SLi:=LH (SL.out i hlt)
  obtain ⟨st,hst⟩:∃st,S i=st:=⟨_,rfl⟩
  rw [hst] at SLi HEQ HLN
  clear hi' hC hlt hbk hln hst
  go_upto_region 9 with (first
   |(refine wpList_load_mid rfl 34 (.tmp 18) rfl bk (off+i*21) rfl _ _ HC.out Tryz.underlying34 rfl (by kernel_rfl) ?_)
   |(refine wpList_store_row rfl 34 (.tmp 6) (.tmp 19) rfl wr.heap.size (chA (Kd i) D i K i) rfl rfl _ _ (Blk.new wr _ _) (by kernel_rfl) rfl (by kernel_rfl) ?_))
  have hal:Below wr.heap.size wr ((wr.alloc (Obj.cells cZc 34)).setRow wr.heap.size (chA (Kd i) D i K i)):=zB4 ((bR _ wr).alloc (nl _) _) (Blk.new wr 34 _) (nl _)
  have HX:Hid (Blk ((wr.alloc (Obj.cells cZc 34)).setRow wr.heap.size (chA (Kd i) D i K i)) wr.heap.size 34 (chA (Kd i) D i K i)):=(Blk.new wr 34 _).setRow
  have HM4:=LH (And.intro (HM.out.1.call hal) (zA1 HM.out.2 hal))
  clear hal HM HC
  generalize (wr.alloc (Obj.cells cZc 34)).setRow wr.heap.size (chA (Kd i) D i K i)=w4 at HX HM4⊢
  generalize wr.heap.size=G at HX⊢
  go_wp2_with (first
   |(refine wpList_load_row rfl 34 (.tmp 6) rfl _ rfl _ _ (0,0) _ HX.out Tryz.underlying34 rfl (by kernel_rfl) ?_)
   |(go_at_call 58
     with_reducible refine (SLi.out _ HM4.out.2).mono ?_
     rintro e w5 ⟨rfl,hb5⟩
     have HM5:=LH (And.intro (HM4.out.1.call hb5) (zA1 HM4.out.2 hb5))
     clear hb5)
   |(go_at_call 59
     refine (bstring w.heap.size b (flS S i) ⟨st.toArray⟩ _ HM5.out.1 HLN.out HM5.out.2.size).mono ?_
     rintro e w6 ⟨rfl,hm6,hb6,_⟩
     have HM6:=LH (And.intro hm6 (HM5.out.2.trans hb6))
     clear hm6 hb6))
  go_roundw
  case rel=>exact ⟨i',HI',rfl,by rw [HEQ.out];exact HM6⟩
  case measure=>exact HMS.out
end Go.Proofs.YtchakniaoeodmaaGreatDoor

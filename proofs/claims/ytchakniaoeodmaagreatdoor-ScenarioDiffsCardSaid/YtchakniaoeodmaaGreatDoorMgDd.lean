/- Merged texts of these proofs: ScRP,ScEq. -/
import Derived.Test.YtchakniaoeodmaaGreatDoorMgMs
import Derived.Test.YtchakniaoeodmaaGreatDoorMgP
import Derived.Test.YtchakniaoeodmaaGreatDoorScD
import Derived.Test.YtchakniaoeodmaaGreatDoorMgAl
import Derived.Test.YtchakniaoeodmaaGreatDoorMgITx
import Derived.Test.YtchakniaoeodmaaGreatDoorMgT
import Derived.Test.YtchakniaoeodmaaGreatDoorMgAp
import Derived.Test.YtchakniaoeodmaaGreatDoorNetV
import Derived.Deep.MidRow
namespace Go.Proofs.YtchakniaoeodmaaGreatDoor
open Go.RowKit
set_option linter.unusedVariables false
set_option linter.unusedSimpArgs false
def DfA (l:List Chr) (k:Nat) (w:World) (e:Ending) (w':World):Prop:=∃(A:Option Addr) (c:Nat) (Kd:Nat→Int) (D:Nds) (K:Lks),e= .returned (.tuple #[.slice A k c,.int .i64 0])∧ChsIn w' A k Kd D K∧recC Kd D K k=l∧Below w.heap.size w w'
theorem df_A {l:List Chr} {k:Nat} {w w':World} {e:Ending} (h:∃u,e= .returned (.tuple #[u,.int .i64 0])∧ChPost l w u w') (hk:l.length=k) (hb:k≤300000):DfA l k w e w':=by
 obtain ⟨u,rfl,hp⟩:=h
 subst hk
 obtain ⟨A,c,Kd,D,K,rfl,a,b,d⟩:=hp.read hb
 exact ⟨A,c,Kd,D,K,rfl,a,b,d⟩
theorem dfF_len (N:List Ndr) (L:List Lkr) (N':List Ndr) (L':List Lkr):(dfF N L N' L').length≤L.length+N.length+N'.length+N'.length+L'.length:=by
 unfold dfF
 simp only [List.length_append,List.length_map]
 have a:=fun {α:Type} (p:α→Bool) (l:List α)=>List.length_filter_le p l
 have a1:=a (fun l=>@decide (l∉L') (Classical.propDecidable _)) L
 refine nT (Nat.add_le_add (a _ _) (Nat.add_le_add (a _ _) (Nat.add_le_add (a _ _) (Nat.add_le_add (a _ _) (a _ _))))) ?_
 omega
theorem recC_eq {Kd Kd':Nat→Int} {D D':Nds} {K K':Lks} {n i:Nat} (h:recC Kd D K n=recC Kd' D' K' n) (hi:i<n):chrR (Kd i) D i K i=chrR (Kd' i) D' i K' i:=by
 have a:=recC_at (Kd:=Kd) (D:=D) (K:=K) hi
 have b:=recC_at (Kd:=Kd') (D:=D') (K:=K') hi
 rw [h] at a
 exact Option.some.inj (a.symm.trans b)
set_option maxRecDepth 100000 in
set_option maxHeartbeats 16000000 in
theorem ch_equal (A B:Option Addr) (n c d:Nat) (Kd Kd':Nat→Int) (D D':Nds) (K K':Lks) (w:World) (h2:n≤2000) (hA:ChsIn w A n Kd D K) (hB:ChsIn w B n Kd' D' K') (he:recC Kd D K n=recC Kd' D' K' n):
 Calls Tryz.prog 15 #[.slice A n c,.slice B n d,.func (.func 16) #[] #[]] w fun e w'=>e= .returned (.bool true)∧Below w.heap.size w w':=by
 have HA:=LH hA
 have HB:=LH hB
 have H2:=LH h2
 have HE:=LH he
 have t1:((n:Int)!=(n:Int))=false:=by simp
 clear hA hB h2 he
 go_enter Tryz.func15,Tryz.ntmps15
 go_wp2_with fail
 go_loopw [17] (fun u wr=>∃i:Nat,Hid (i≤n)∧u= .int .i64 i∧Hid (Below w.heap.size w wr)) (fun u _=>n - (RowKit.intOf u).toNat)
 case atStart=>exact ⟨0,Nat.zero_le _,rfl,bR _ _⟩
 case round=>
  obtain ⟨i,Hi,rfl,HW⟩:=hrel
  by_cases hlt:i<n
  ·have T0:decide ((i:Int)<(n:Int))=true:=by simp<;> omega
   have T0':decide (i<n)=true:=dU hlt
   obtain ⟨i',hi'⟩:∃z,z=i+1:=⟨_,rfl⟩
   have x0:IntKind.i64.wrap ((i:Int)+1)=(i':Int):=by have:=H2.out;rw [IntKind.wrap_i64];omega
   have k0:(0:Int)≤(i:Int):=by omega
   have k1:(i:Int)<(n:Int):=by omega
   have k2:i<n:=hlt
   have HI':Hid (i'≤n):=by show _≤_;omega
   have HMS:Hid (n - (RowKit.intOf (Value.int .i64 (i':Int))).toNat<n - (RowKit.intOf (Value.int .i64 (i:Int))).toNat):=by show _<_;simp [RowKit.intOf];omega
   obtain ⟨b,off,rfl,hb,hC,hT1,hT2⟩:=(HA.out.below (nl _) HW.out).at hlt
   obtain ⟨b2,off2,rfl,hb2,hC2,hT3,hT4⟩:=(HB.out.below (nl _) HW.out).at hlt
   have HC:Hid (wr.rangeAt b (off+i*21) [.int .i64 (Kd i),.string (D.Nm i),.int .i64 (D.Kd i),.int .i64 (D.Ax i),.int .i64 (D.Ay i),.int .i64 (D.Iv i),.int .i64 (D.Gd i),.slice (D.SA i) (D.SN i) (D.SC i),.bool (D.Pt i),.int .i64 (D.Rs i),.string (K.Nm i),.string (K.Fr i),.string (K.To i),.int .i64 (K.Kd i),.int .i64 (K.Ln i),.int .i64 (K.Up i),.int .i64 (K.Dn i),.string (K.Sc i),.int .i64 (K.Wd i),.int .i64 (K.Ht i),.slice (K.CA i) (K.CN i) (K.CC i)]):=hC
   have HCb:Hid (CellsAt wr b2 (off2+i*21) (chv (Kd' i) D' i K' i)∧b2<wr.heap.size):=⟨hC2,hb2⟩
   have HTT:=LH (And.intro (And.intro hT1 hT2) (And.intro hT3 hT4))
   have HEQ:=LH (recC_eq HE.out hlt)
   clear hi' hC hC2 hb hb2 hT1 hT2 hT3 hT4 hlt
   go_upto_region 6 with (first
        |(refine wpList_load_mid rfl 34 (.tmp 20) rfl b (off+i*21) rfl _ _ HC.out Tryz.underlying34 rfl (by kernel_rfl) ?_)
        |(refine wpList_store_row rfl 34 (.tmp 8) (.tmp 21) rfl wr.heap.size (chA (Kd i) D i K i) rfl rfl _ _ (Blk.new wr _ _) (by kernel_rfl) rfl (by kernel_rfl) ?_))
   have hal:Below wr.heap.size wr ((wr.alloc (Obj.cells cZc 34)).setRow wr.heap.size (chA (Kd i) D i K i)):=zB4 ((bR _ wr).alloc (nl _) _) (Blk.new wr 34 _) (nl _)
   have HX:Hid (Blk ((wr.alloc (Obj.cells cZc 34)).setRow wr.heap.size (chA (Kd i) D i K i)) wr.heap.size 34 (chA (Kd i) D i K i)):=(Blk.new wr 34 _).setRow
   have HC2:Hid (((wr.alloc (Obj.cells cZc 34)).setRow wr.heap.size (chA (Kd i) D i K i)).rangeAt b2 (off2+i*21) [.int .i64 (Kd' i),.string (D'.Nm i),.int .i64 (D'.Kd i),.int .i64 (D'.Ax i),.int .i64 (D'.Ay i),.int .i64 (D'.Iv i),.int .i64 (D'.Gd i),.slice (D'.SA i) (D'.SN i) (D'.SC i),.bool (D'.Pt i),.int .i64 (D'.Rs i),.string (K'.Nm i),.string (K'.Fr i),.string (K'.To i),.int .i64 (K'.Kd i),.int .i64 (K'.Ln i),.int .i64 (K'.Up i),.int .i64 (K'.Dn i),.string (K'.Sc i),.int .i64 (K'.Wd i),.int .i64 (K'.Ht i),.slice (K'.CA i) (K'.CN i) (K'.CC i)]):=HCb.out.1.below hal HCb.out.2
   have HW4:=LH hal
   clear HC HCb hal
   generalize (wr.alloc (Obj.cells cZc 34)).setRow wr.heap.size (chA (Kd i) D i K i)=w4 at HX HC2 HW4⊢
   generalize hG:wr.heap.size=G at HX HW4⊢
   go_upto_region 7 with (first
        |(refine wpList_load_mid rfl 34 (.tmp 24) rfl b2 (off2+i*21) rfl _ _ HC2.out Tryz.underlying34 rfl (by kernel_rfl) ?_)
        |(refine wpList_store_row rfl 34 (.tmp 9) (.tmp 25) rfl w4.heap.size (chA (Kd' i) D' i K' i) rfl rfl _ _ (Blk.new w4 _ _) (by kernel_rfl) rfl (by kernel_rfl) ?_))
   have hal:Below w4.heap.size w4 ((w4.alloc (Obj.cells cZc 34)).setRow w4.heap.size (chA (Kd' i) D' i K' i)):=zB4 ((bR _ w4).alloc (nl _) _) (Blk.new w4 34 _) (nl _)
   have HY:Hid (Blk ((w4.alloc (Obj.cells cZc 34)).setRow w4.heap.size (chA (Kd' i) D' i K' i)) w4.heap.size 34 (chA (Kd' i) D' i K' i)):=(Blk.new w4 34 _).setRow
   have HX:=LH (HX.out.call hal)
   have HW5:Hid (Below wr.heap.size wr ((w4.alloc (Obj.cells cZc 34)).setRow w4.heap.size (chA (Kd' i) D' i K' i))):=by
        have h:=HW4.out
        rw [←hG] at h
        exact zA1 h hal
   clear HC2 HW4 hal hG
   generalize (w4.alloc (Obj.cells cZc 34)).setRow w4.heap.size (chA (Kd' i) D' i K' i)=w5 at HX HY HW5⊢
   generalize w4.heap.size=G2 at HY⊢
   have SS:Hid (Calls Tryz.prog 16 #[.agg (chA (Kd i) D i K i),.agg (chA (Kd' i) D' i K' i)] w5 fun e w''=>e= .returned (.bool true)∧Below w5.heap.size w5 w''):=by
        have h:=r_same (Kd i) (Kd' i) i i i i D D' K K' w5 (HTT.out.1.1.below (nl _) HW5.out) (HTT.out.1.2.below (nl _) HW5.out) (HTT.out.2.1.below (nl _) HW5.out) (HTT.out.2.2.below (nl _) HW5.out)
        rw [zA2 HEQ.out] at h
        exact h
   go_wp2_with (first
        |(refine wpList_load_row rfl 34 (.tmp 8) rfl _ rfl _ _ (0,0) _ HX.out Tryz.underlying34 rfl (by kernel_rfl) ?_)
        |(refine wpList_load_row rfl 34 (.tmp 9) rfl _ rfl _ _ (0,0) _ HY.out Tryz.underlying34 rfl (by kernel_rfl) ?_)
        |(go_at_call 16
          with_reducible refine SS.out.mono ?_
          rintro e w6 ⟨rfl,hb6⟩
          have HW6:=LH (zA1 HW.out (zA1 HW5.out hb6))
          clear hb6))
   go_roundw
   case rel=>exact ⟨i',HI',rfl,HW6⟩
   case measure=>exact HMS.out
  ·have e:i=n:=by have:=Hi.out;omega
   have T0:decide ((i:Int)<(n:Int))=false:=by simp<;> omega
   have T0':decide (i<n)=false:=dF hlt
   clear e hlt
   go_wp2_with fail
   go_ret
   exact ⟨rfl,HW.out⟩
set_option maxRecDepth 100000 in
set_option maxHeartbeats 16000000 in
theorem sc_Diff_bad (NA LA NB LB:Option Addr) (n nc0 m lc0 n' nc1 m' lc1:Nat) (D D':Nds) (K K':Lks) (w:World) (hz:ZZ (recN D n) (recL K m)) (hz':ZZ (recN D' n') (recL K' m')) (hV:¬(netP D n K m∧netP D' n' K' m')) (hD:NdIn w NA n D) (hK:LkIn w LA m K) (hD':NdIn w NB n' D') (hK':LkIn w LB m' K'):
 Calls Tryz.prog 29 #[.agg #[.slice NA n nc0,.slice LA m lc0],.agg #[.slice NB n' nc1,.slice LB m' lc1]] w fun e w'=>e= .returned (.tuple #[.slice none 0 0,.int .i64 1])∧Below w.heap.size w w':=by
 have HB:Hid (Below w.heap.size w ((w.alloc (Obj.cells #[.slice NA n nc0,.slice LA m lc0] 52)).alloc (Obj.cells #[.slice NB n' nc1,.slice LB m' lc1] 52))):=((bR _ w).alloc (nl _) _).alloc (by simp) _
 have HNX:Hid (Blk ((w.alloc (Obj.cells #[.slice NA n nc0,.slice LA m lc0] 52)).alloc (Obj.cells #[.slice NB n' nc1,.slice LB m' lc1] 52)) w.heap.size 52 #[.slice NA n nc0,.slice LA m lc0]):=(Blk.new _ _ _).alloc _
 have HMX:Hid (Blk ((w.alloc (Obj.cells #[.slice NA n nc0,.slice LA m lc0] 52)).alloc (Obj.cells #[.slice NB n' nc1,.slice LB m' lc1] 52)) (w.heap.size+1) 52 #[.slice NB n' nc1,.slice LB m' lc1]):=by have h:=Blk.new (w.alloc (Obj.cells #[.slice NA n nc0,.slice LA m lc0] 52)) 52 #[.slice NB n' nc1,.slice LB m' lc1];rw [zB0] at h;exact h
 obtain ⟨V1,hV1⟩:∃V,boolOf (netP D n K m)=V:=⟨_,rfl⟩
 obtain ⟨V2,hV2⟩:∃V,boolOf (netP D' n' K' m')=V:=⟨_,rfl⟩
 have S1:Hid (∀w',Below w.heap.size w w'→Calls Tryz.prog 68 #[.agg #[.slice NA n nc0,.slice LA m lc0]] w' fun e w''=>e= .returned (.bool V1)∧Below w'.heap.size w' w''):=fun w' hb=>by
  have h:=zF4 NA LA n nc0 m lc0 D K hz.sz w' (zB3 hD hb) (zB1 hK hb)
  rw [hV1] at h
  exact h
 have S2:Hid (∀w',Below w.heap.size w w'→Calls Tryz.prog 68 #[.agg #[.slice NB n' nc1,.slice LB m' lc1]] w' fun e w''=>e= .returned (.bool V2)∧Below w'.heap.size w' w''):=fun w' hb=>by
  have h:=zF4 NB LB n' nc1 m' lc1 D' K' hz'.sz w' (zB3 hD' hb) (zB1 hK' hb)
  rw [hV2] at h
  exact h
 have hcase:V1=false∨(V1=true∧V2=false):=by
  by_cases h1:netP D n K m
  ·refine .inr ⟨by rw [←hV1];exact zA2 h1,?_⟩
   rw [←hV2]
   exact zA0 fun h2=>hV ⟨h1,h2⟩
  ·exact .inl (by rw [←hV1];exact zA0 h1)
 clear hz hz' hV hD hK hD' hK' hV1 hV2
 go_enter Tryz.func29,Tryz.ntmps29
 go_upto_region 1 with fail
 generalize (w.alloc (Obj.cells #[.slice NA n nc0,.slice LA m lc0] 52)).alloc (Obj.cells #[.slice NB n' nc1,.slice LB m' lc1] 52)=w2 at HB HNX HMX⊢
 obtain ⟨d0,d1⟩:=blk2 HNX.out
 obtain ⟨e0_,e1_⟩:=blk2 HMX.out
 rcases hcase with rfl |⟨rfl,rfl⟩
 all_goals
  go_wp2_with (first
   |(go_at_call 68
     with_reducible refine (S1.out _ HB.out).mono ?_
     rintro e w4 ⟨rfl,hb4⟩
     have HNX:=LH (HNX.out.call hb4)
     have HMX:=LH (HMX.out.call hb4)
     have HB:=LH (zA1 HB.out hb4)
     clear d0 d1 e0_ e1_ hb4
     obtain ⟨d0,d1⟩:=blk2 HNX.out
     obtain ⟨e0_,e1_⟩:=blk2 HMX.out)
   |(go_at_call 68
     with_reducible refine (S2.out _ HB.out).mono ?_
     rintro e w4 ⟨rfl,hb4⟩
     have HNX:=LH (HNX.out.call hb4)
     have HMX:=LH (HMX.out.call hb4)
     have HB:=LH (zA1 HB.out hb4)
     clear d0 d1 e0_ e1_ hb4
     obtain ⟨d0,d1⟩:=blk2 HNX.out
     obtain ⟨e0_,e1_⟩:=blk2 HMX.out))
  go_ret2
  exact ⟨rfl,HB.out⟩
end Go.Proofs.YtchakniaoeodmaaGreatDoor

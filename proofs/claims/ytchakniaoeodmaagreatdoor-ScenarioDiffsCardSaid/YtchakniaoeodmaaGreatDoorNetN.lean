/- rightNode of package network. -/
import Derived.Test.YtchakniaoeodmaaGreatDoorMgL
namespace Go.Proofs.YtchakniaoeodmaaGreatDoor
open Go.RowKit
set_option linter.unusedVariables false
set_option linter.unusedSimpArgs false
theorem zD5 (w:World) (o:Obj) (t:TypeId) (cs:Array Value):Blk ((w.alloc o).alloc (.cells cs t)) (w.heap.size+1) t cs:=by
 have h:=Blk.new (w.alloc o) t cs
 rw [show (w.alloc o).heap.size=w.heap.size+1 by simp] at h
 exact h
theorem zD4 {w:World} {g:Nat} {x y:Int} (h:Blk w g 3 #[.int .i64 x,.int .i64 y]):IntIn w (some ⟨g,0,none⟩) 2 (fun k=>if k=0 then x else y):=
 ⟨by omega,.inr ⟨g,0,rfl,h.lt,fun k hk=>by
   have:k=0∨k=1:=by omega
   rcases this with rfl |rfl
   ·exact h.cell 0
   ·exact h.cell 1⟩⟩
theorem zD9 {w:World} {g:Nat} {x:Int} (h:Blk w g 3 #[.int .i64 x]):IntIn w (some ⟨g,0,none⟩) 1 (fun _=>x):=
 ⟨by omega,.inr ⟨g,0,rfl,h.lt,fun k hk=>by
   obtain rfl:k=0:=by omega
   exact h.cell 0⟩⟩
set_option maxRecDepth 100000 in
set_option maxHeartbeats 4000000 in
theorem nnode (nm:ByteArray) (kd ax ay iv gd:Int) (A:Option Addr) (n c:Nat) (X Y:Nat→Int) (pt:Bool) (rs:Int) (hn:nm.size≤maxLen) (w:World) (ht:TabIn w A n X Y):
 Calls Tryz.prog 112 #[.agg #[.string nm,.int .i64 kd,.int .i64 ax,.int .i64 ay,.int .i64 iv,.int .i64 gd,.slice A n c,.bool pt,.int .i64 rs]] w fun e w'=>e= .returned (.bool (boolOf (zQ1 nm kd ax ay iv gd n X Y pt rs)))∧Below w.heap.size w w':=by
 have HT:=LH ht
 have S1:=LH fun w=>zQ9 nm hn w
 have sx:=fun w=>zI6 ax (-16777216) 16777216 w
 have sy:=fun w=>zI6 ay (-16777216) 16777216 w
 have sl:=fun (f:Bool) hf g c w h=>nlevel (some ⟨g,0,none⟩) 2 c (fun k=>if k=0 then iv else gd) (by omega) f hf w h
 have sh:=fun w h=>nshaped A n c X Y (gd - iv) w h
 obtain ⟨V,hV⟩:∃V,V=boolOf (zQ1 nm kd ax ay iv gd n X Y pt rs):=⟨_,rfl⟩
 rw [←hV]
 have hlv:(∀j,j<2→lvP ((fun k=>if k=0 then iv else gd) j))↔(lvP iv∧lvP gd):=by
  constructor
  ·intro h;exact ⟨h 0 (by omega),h 1 (by omega)⟩
  ·intro h j hj
   have:j=0∨j=1:=by omega
   rcases this with rfl |rfl
   ·exact h.1
   ·exact h.2
 clear ht hn
 by_cases g0:zD1 nm.data.toList=true
 case neg=>
  have g0':zD1 nm.data.toList=false:=by simpa using g0
  rw [g0'] at S1
  have SX:=LH sx
  have SY:=LH sy
  have SL:=LH (sl true)
  have SH:=LH sh
  obtain rfl:V=false:=by rw [hV];exact zA0 fun h=>g0 h.1
  clear hV g0 g0' hlv sx sy sl sh
  go_enter Tryz.func112,Tryz.ntmps112
  go_wp2_with (first
   |(go_at_call 98;(with_reducible refine (S1.out _).mono ?_);rintro e w' ⟨rfl,rfl⟩))
  go_ret
  exact ⟨rfl,bel⟩
 rw [g0] at S1
 by_cases g1:poP ax
 case neg=>
  rw [dF (show¬(-16777216≤ax∧ax≤16777216) from g1)] at sx
  have SX:=LH sx
  have SY:=LH sy
  have SL:=LH (sl true)
  have SH:=LH sh
  obtain rfl:V=false:=by rw [hV];exact zA0 fun h=>g1 h.2.1
  clear hV g0 g1 hlv sx sy sl sh
  go_enter Tryz.func112,Tryz.ntmps112
  go_wp2_with (first
   |(go_at_call 98;(with_reducible refine (S1.out _).mono ?_);rintro e w' ⟨rfl,rfl⟩)
   |(go_at_call 152;(with_reducible refine (SX.out _).mono ?_);rintro e w' ⟨rfl,rfl⟩))
  go_ret
  exact ⟨rfl,bel⟩
 rw [dU (show -16777216≤ax∧ax≤16777216 from g1)] at sx
 have SX:=LH sx
 by_cases g2:poP ay
 case neg=>
  rw [dF (show¬(-16777216≤ay∧ay≤16777216) from g2)] at sy
  have SY:=LH sy
  have SL:=LH (sl true)
  have SH:=LH sh
  obtain rfl:V=false:=by rw [hV];exact zA0 fun h=>g2 h.2.2.1
  clear hV g0 g1 g2 hlv sx sy sl sh
  go_enter Tryz.func112,Tryz.ntmps112
  go_wp2_with (first
   |(go_at_call 98;(with_reducible refine (S1.out _).mono ?_);rintro e w' ⟨rfl,rfl⟩)
   |(go_at_call 152;(with_reducible refine (SX.out _).mono ?_);rintro e w' ⟨rfl,rfl⟩)
   |(go_at_call 152;(with_reducible refine (SY.out _).mono ?_);rintro e w' ⟨rfl,rfl⟩))
  go_ret
  exact ⟨rfl,bel⟩
 rw [dU (show -16777216≤ay∧ay≤16777216 from g2)] at sy
 have SY:=LH sy
 by_cases g3:lvP iv∧lvP gd
 case neg=>
  have SL:=LH (sl false ⟨fun h=>(by cases h),fun h=>absurd (hlv.1 h) g3⟩)
  have SH:=LH sh
  obtain rfl:V=false:=by rw [hV];exact zA0 fun h=>g3 h.2.2.2.1
  clear hV g0 g1 g2 g3 hlv sx sy sl sh
  go_enter Tryz.func112,Tryz.ntmps112
  go_wp2_with (first
   |(go_at_call 98;(with_reducible refine (S1.out _).mono ?_);rintro e w' ⟨rfl,rfl⟩)
   |(go_at_call 152;(with_reducible refine (SX.out _).mono ?_);rintro e w' ⟨rfl,rfl⟩)
   |(go_at_call 152;(with_reducible refine (SY.out _).mono ?_);rintro e w' ⟨rfl,rfl⟩)
   |(go_at_call 153;(with_reducible refine (SL.out _ _ _ ?_).mono ?_);(focus (exact zD4 (zD5 _ _ _ _)));rintro e w1 ⟨rfl,hb1⟩;obtain ⟨hc1,hf1⟩:=zA8 hb1;have hz1:=hb1.size;(try simp at hz1);(try simp only [heap_drew,World.heap_drewN] at hz1 hc1 hf1);(try have hs1:=Nat.lt_of_succ_le hz1);(try have hs2:=Nat.lt_of_succ_lt hs1);(try have y0:w.heap.size<w1.heap.size:=by omega);(try have y1:w.heap.size+1<w1.heap.size:=by omega);(try have y2:w.heap.size+2<w1.heap.size:=by omega)))
  go_ret
  exact ⟨rfl,bel⟩
 have SL:=LH (sl true ⟨fun _=>hlv.2 g3,fun _=>rfl⟩)
 have hg:zQ1 nm kd ax ay iv gd n X Y pt rs↔((kd=3∧iv≤gd∧n=0∧pt=false∧rs=0)∨((kd=1∨kd=2)∧iv<gd∧CurveOK n X Y (gd - iv) 1125899906842624∧((pt=false∧rs=0)∨(pt=true∧kd=2∧0≤rs∧rs≤Y (n - 1))))):=by
  unfold zQ1
  exact ⟨fun h=>h.2.2.2.2,fun h=>⟨g0,g1,g2,g3,h⟩⟩
 have hw:IntKind.i64.wrap (gd - iv)=gd - iv:=by
  have h1:=g3.1;have h2:=g3.2
  unfold lvP at h1 h2
  rw [IntKind.wrap_i64];omega
 clear g0 g1 g2 g3 hlv sx sy sl
 by_cases k1:kd=1
 case pos=>
  subst k1
  by_cases q1:iv<gd
  case neg=>
   have t1:decide (gd≤iv)=true:=dU (by omega)
   have SH:=LH sh
   obtain rfl:V=false:=by rw [hV];exact zA0 fun h=>(by rcases hg.1 h with h |h<;> omega)
   clear hV hg q1 sh
   go_enter Tryz.func112,Tryz.ntmps112
   go_wp2_with (first
        |(go_at_call 98;(with_reducible refine (S1.out _).mono ?_);rintro e w' ⟨rfl,rfl⟩)
        |(go_at_call 152;(with_reducible refine (SX.out _).mono ?_);rintro e w' ⟨rfl,rfl⟩)
        |(go_at_call 152;(with_reducible refine (SY.out _).mono ?_);rintro e w' ⟨rfl,rfl⟩)
        |(go_at_call 153;(with_reducible refine (SL.out _ _ _ ?_).mono ?_);(focus (exact zD4 (zD5 _ _ _ _)));rintro e w1 ⟨rfl,hb1⟩;obtain ⟨hc1,hf1⟩:=zA8 hb1;have hz1:=hb1.size;(try simp at hz1);(try simp only [heap_drew,World.heap_drewN] at hz1 hc1 hf1);(try have hs1:=Nat.lt_of_succ_le hz1);(try have hs2:=Nat.lt_of_succ_lt hs1);(try have y0:w.heap.size<w1.heap.size:=by omega);(try have y1:w.heap.size+1<w1.heap.size:=by omega);(try have y2:w.heap.size+2<w1.heap.size:=by omega)))
   go_ret
   exact ⟨rfl,bel⟩
  have t1:decide (gd≤iv)=false:=dF (by omega)
  by_cases q2:CurveOK n X Y (gd - iv) 1125899906842624
  case neg=>
   rw [zA0 q2] at sh
   have SH:=LH sh
   obtain rfl:V=false:=by rw [hV];exact zA0 fun h=>(by rcases hg.1 h with h |h;exact absurd h.1 (by omega);exact q2 h.2.2.1)
   clear hV hg q1 q2 sh
   go_enter Tryz.func112,Tryz.ntmps112
   go_wp2_with (first
        |(go_at_call 98;(with_reducible refine (S1.out _).mono ?_);rintro e w' ⟨rfl,rfl⟩)
        |(go_at_call 152;(with_reducible refine (SX.out _).mono ?_);rintro e w' ⟨rfl,rfl⟩)
        |(go_at_call 152;(with_reducible refine (SY.out _).mono ?_);rintro e w' ⟨rfl,rfl⟩)
        |(go_at_call 153;(with_reducible refine (SL.out _ _ _ ?_).mono ?_);(focus (exact zD4 (zD5 _ _ _ _)));rintro e w1 ⟨rfl,hb1⟩;obtain ⟨hc1,hf1⟩:=zA8 hb1;have hz1:=hb1.size;(try simp at hz1);(try simp only [heap_drew,World.heap_drewN] at hz1 hc1 hf1);(try have hs1:=Nat.lt_of_succ_le hz1);(try have hs2:=Nat.lt_of_succ_lt hs1);(try have y0:w.heap.size<w1.heap.size:=by omega);(try have y1:w.heap.size+1<w1.heap.size:=by omega);(try have y2:w.heap.size+2<w1.heap.size:=by omega))
        |(go_at_call 154;(with_reducible refine (SH.out _ ?_).mono ?_);(focus (exact HT.out.below (nl _) bel));rintro e w2 ⟨rfl,hb2⟩;obtain ⟨hc2,hf2⟩:=zA8 hb2;have hz2:=hb2.size;(try simp at hz2);(try simp only [heap_drew,World.heap_drewN] at hz2 hc2 hf2);(try have hs1:=Nat.lt_of_succ_le hz2);(try have hs2:=Nat.lt_of_succ_lt hs1);(try have y0:w.heap.size<w2.heap.size:=by omega);(try have y1:w.heap.size+1<w2.heap.size:=by omega);(try have y2:w.heap.size+2<w2.heap.size:=by omega)))
   go_ret
   exact ⟨rfl,bel⟩
  rw [zA2 q2] at sh
  have SH:=LH sh
  clear sh
  cases pt
  case true=>
   obtain rfl:V=false:=by rw [hV];exact zA0 fun h=>(by rcases hg.1 h with h |⟨_,_,_,h |h⟩;exact absurd h.1 (by omega);cases h.1;exact absurd h.2.1 (by omega))
   clear hV hg q1 q2
   go_enter Tryz.func112,Tryz.ntmps112
   go_wp2_with (first
        |(go_at_call 98;(with_reducible refine (S1.out _).mono ?_);rintro e w' ⟨rfl,rfl⟩)
        |(go_at_call 152;(with_reducible refine (SX.out _).mono ?_);rintro e w' ⟨rfl,rfl⟩)
        |(go_at_call 152;(with_reducible refine (SY.out _).mono ?_);rintro e w' ⟨rfl,rfl⟩)
        |(go_at_call 153;(with_reducible refine (SL.out _ _ _ ?_).mono ?_);(focus (exact zD4 (zD5 _ _ _ _)));rintro e w1 ⟨rfl,hb1⟩;obtain ⟨hc1,hf1⟩:=zA8 hb1;have hz1:=hb1.size;(try simp at hz1);(try simp only [heap_drew,World.heap_drewN] at hz1 hc1 hf1);(try have hs1:=Nat.lt_of_succ_le hz1);(try have hs2:=Nat.lt_of_succ_lt hs1);(try have y0:w.heap.size<w1.heap.size:=by omega);(try have y1:w.heap.size+1<w1.heap.size:=by omega);(try have y2:w.heap.size+2<w1.heap.size:=by omega))
        |(go_at_call 154;(with_reducible refine (SH.out _ ?_).mono ?_);(focus (exact HT.out.below (nl _) bel));rintro e w2 ⟨rfl,hb2⟩;obtain ⟨hc2,hf2⟩:=zA8 hb2;have hz2:=hb2.size;(try simp at hz2);(try simp only [heap_drew,World.heap_drewN] at hz2 hc2 hf2);(try have hs1:=Nat.lt_of_succ_le hz2);(try have hs2:=Nat.lt_of_succ_lt hs1);(try have y0:w.heap.size<w2.heap.size:=by omega);(try have y1:w.heap.size+1<w2.heap.size:=by omega);(try have y2:w.heap.size+2<w2.heap.size:=by omega)))
   go_ret
   exact ⟨rfl,bel⟩
  case false=>
  by_cases q3:rs=0
  case pos=>
   subst q3
   obtain rfl:V=true:=by rw [hV];exact zA2 (hg.2 (.inr ⟨.inl rfl,q1,q2,.inl ⟨rfl,rfl⟩⟩))
   clear hV hg q1 q2
   go_enter Tryz.func112,Tryz.ntmps112
   go_wp2_with (first
        |(go_at_call 98;(with_reducible refine (S1.out _).mono ?_);rintro e w' ⟨rfl,rfl⟩)
        |(go_at_call 152;(with_reducible refine (SX.out _).mono ?_);rintro e w' ⟨rfl,rfl⟩)
        |(go_at_call 152;(with_reducible refine (SY.out _).mono ?_);rintro e w' ⟨rfl,rfl⟩)
        |(go_at_call 153;(with_reducible refine (SL.out _ _ _ ?_).mono ?_);(focus (exact zD4 (zD5 _ _ _ _)));rintro e w1 ⟨rfl,hb1⟩;obtain ⟨hc1,hf1⟩:=zA8 hb1;have hz1:=hb1.size;(try simp at hz1);(try simp only [heap_drew,World.heap_drewN] at hz1 hc1 hf1);(try have hs1:=Nat.lt_of_succ_le hz1);(try have hs2:=Nat.lt_of_succ_lt hs1);(try have y0:w.heap.size<w1.heap.size:=by omega);(try have y1:w.heap.size+1<w1.heap.size:=by omega);(try have y2:w.heap.size+2<w1.heap.size:=by omega))
        |(go_at_call 154;(with_reducible refine (SH.out _ ?_).mono ?_);(focus (exact HT.out.below (nl _) bel));rintro e w2 ⟨rfl,hb2⟩;obtain ⟨hc2,hf2⟩:=zA8 hb2;have hz2:=hb2.size;(try simp at hz2);(try simp only [heap_drew,World.heap_drewN] at hz2 hc2 hf2);(try have hs1:=Nat.lt_of_succ_le hz2);(try have hs2:=Nat.lt_of_succ_lt hs1);(try have y0:w.heap.size<w2.heap.size:=by omega);(try have y1:w.heap.size+1<w2.heap.size:=by omega);(try have y2:w.heap.size+2<w2.heap.size:=by omega)))
   go_ret
   exact ⟨rfl,bel⟩
  case neg=>
   have t3:(rs==0)=false:=by simpa using q3
   obtain rfl:V=false:=by rw [hV];exact zA0 fun h=>(by rcases hg.1 h with h |⟨_,_,_,h |h⟩;exact absurd h.1 (by omega);exact q3 h.2;cases h.1)
   clear hV hg q1 q2 q3
   go_enter Tryz.func112,Tryz.ntmps112
   go_wp2_with (first
        |(go_at_call 98;(with_reducible refine (S1.out _).mono ?_);rintro e w' ⟨rfl,rfl⟩)
        |(go_at_call 152;(with_reducible refine (SX.out _).mono ?_);rintro e w' ⟨rfl,rfl⟩)
        |(go_at_call 152;(with_reducible refine (SY.out _).mono ?_);rintro e w' ⟨rfl,rfl⟩)
        |(go_at_call 153;(with_reducible refine (SL.out _ _ _ ?_).mono ?_);(focus (exact zD4 (zD5 _ _ _ _)));rintro e w1 ⟨rfl,hb1⟩;obtain ⟨hc1,hf1⟩:=zA8 hb1;have hz1:=hb1.size;(try simp at hz1);(try simp only [heap_drew,World.heap_drewN] at hz1 hc1 hf1);(try have hs1:=Nat.lt_of_succ_le hz1);(try have hs2:=Nat.lt_of_succ_lt hs1);(try have y0:w.heap.size<w1.heap.size:=by omega);(try have y1:w.heap.size+1<w1.heap.size:=by omega);(try have y2:w.heap.size+2<w1.heap.size:=by omega))
        |(go_at_call 154;(with_reducible refine (SH.out _ ?_).mono ?_);(focus (exact HT.out.below (nl _) bel));rintro e w2 ⟨rfl,hb2⟩;obtain ⟨hc2,hf2⟩:=zA8 hb2;have hz2:=hb2.size;(try simp at hz2);(try simp only [heap_drew,World.heap_drewN] at hz2 hc2 hf2);(try have hs1:=Nat.lt_of_succ_le hz2);(try have hs2:=Nat.lt_of_succ_lt hs1);(try have y0:w.heap.size<w2.heap.size:=by omega);(try have y1:w.heap.size+1<w2.heap.size:=by omega);(try have y2:w.heap.size+2<w2.heap.size:=by omega)))
   go_ret
   exact ⟨rfl,bel⟩
 have t11:(kd==1)=false:=by simpa using k1
 by_cases k2:kd=2
 case pos=>
  subst k2
  by_cases q1:iv<gd
  case neg=>
   have t1:decide (gd≤iv)=true:=dU (by omega)
   have SH:=LH sh
   obtain rfl:V=false:=by rw [hV];exact zA0 fun h=>(by rcases hg.1 h with h |h<;> omega)
   clear hV hg q1 sh
   go_enter Tryz.func112,Tryz.ntmps112
   go_wp2_with (first
        |(go_at_call 98;(with_reducible refine (S1.out _).mono ?_);rintro e w' ⟨rfl,rfl⟩)
        |(go_at_call 152;(with_reducible refine (SX.out _).mono ?_);rintro e w' ⟨rfl,rfl⟩)
        |(go_at_call 152;(with_reducible refine (SY.out _).mono ?_);rintro e w' ⟨rfl,rfl⟩)
        |(go_at_call 153;(with_reducible refine (SL.out _ _ _ ?_).mono ?_);(focus (exact zD4 (zD5 _ _ _ _)));rintro e w1 ⟨rfl,hb1⟩;obtain ⟨hc1,hf1⟩:=zA8 hb1;have hz1:=hb1.size;(try simp at hz1);(try simp only [heap_drew,World.heap_drewN] at hz1 hc1 hf1);(try have hs1:=Nat.lt_of_succ_le hz1);(try have hs2:=Nat.lt_of_succ_lt hs1);(try have y0:w.heap.size<w1.heap.size:=by omega);(try have y1:w.heap.size+1<w1.heap.size:=by omega);(try have y2:w.heap.size+2<w1.heap.size:=by omega)))
   go_ret
   exact ⟨rfl,bel⟩
  have t1:decide (gd≤iv)=false:=dF (by omega)
  by_cases q2:CurveOK n X Y (gd - iv) 1125899906842624
  case neg=>
   rw [zA0 q2] at sh
   have SH:=LH sh
   obtain rfl:V=false:=by rw [hV];exact zA0 fun h=>(by rcases hg.1 h with h |h;exact absurd h.1 (by omega);exact q2 h.2.2.1)
   clear hV hg q1 q2 sh
   go_enter Tryz.func112,Tryz.ntmps112
   go_wp2_with (first
        |(go_at_call 98;(with_reducible refine (S1.out _).mono ?_);rintro e w' ⟨rfl,rfl⟩)
        |(go_at_call 152;(with_reducible refine (SX.out _).mono ?_);rintro e w' ⟨rfl,rfl⟩)
        |(go_at_call 152;(with_reducible refine (SY.out _).mono ?_);rintro e w' ⟨rfl,rfl⟩)
        |(go_at_call 153;(with_reducible refine (SL.out _ _ _ ?_).mono ?_);(focus (exact zD4 (zD5 _ _ _ _)));rintro e w1 ⟨rfl,hb1⟩;obtain ⟨hc1,hf1⟩:=zA8 hb1;have hz1:=hb1.size;(try simp at hz1);(try simp only [heap_drew,World.heap_drewN] at hz1 hc1 hf1);(try have hs1:=Nat.lt_of_succ_le hz1);(try have hs2:=Nat.lt_of_succ_lt hs1);(try have y0:w.heap.size<w1.heap.size:=by omega);(try have y1:w.heap.size+1<w1.heap.size:=by omega);(try have y2:w.heap.size+2<w1.heap.size:=by omega))
        |(go_at_call 154;(with_reducible refine (SH.out _ ?_).mono ?_);(focus (exact HT.out.below (nl _) bel));rintro e w2 ⟨rfl,hb2⟩;obtain ⟨hc2,hf2⟩:=zA8 hb2;have hz2:=hb2.size;(try simp at hz2);(try simp only [heap_drew,World.heap_drewN] at hz2 hc2 hf2);(try have hs1:=Nat.lt_of_succ_le hz2);(try have hs2:=Nat.lt_of_succ_lt hs1);(try have y0:w.heap.size<w2.heap.size:=by omega);(try have y1:w.heap.size+1<w2.heap.size:=by omega);(try have y2:w.heap.size+2<w2.heap.size:=by omega)))
   go_ret
   exact ⟨rfl,bel⟩
  rw [zA2 q2] at sh
  have SH:=LH sh
  clear sh
  cases pt
  case false=>
   by_cases q3:rs=0
   case pos=>
        subst q3
        obtain rfl:V=true:=by rw [hV];exact zA2 (hg.2 (.inr ⟨.inr rfl,q1,q2,.inl ⟨rfl,rfl⟩⟩))
        clear hV hg q1 q2
        go_enter Tryz.func112,Tryz.ntmps112
        go_wp2_with (first
         |(go_at_call 98;(with_reducible refine (S1.out _).mono ?_);rintro e w' ⟨rfl,rfl⟩)
         |(go_at_call 152;(with_reducible refine (SX.out _).mono ?_);rintro e w' ⟨rfl,rfl⟩)
         |(go_at_call 152;(with_reducible refine (SY.out _).mono ?_);rintro e w' ⟨rfl,rfl⟩)
         |(go_at_call 153;(with_reducible refine (SL.out _ _ _ ?_).mono ?_);(focus (exact zD4 (zD5 _ _ _ _)));rintro e w1 ⟨rfl,hb1⟩;obtain ⟨hc1,hf1⟩:=zA8 hb1;have hz1:=hb1.size;(try simp at hz1);(try simp only [heap_drew,World.heap_drewN] at hz1 hc1 hf1);(try have hs1:=Nat.lt_of_succ_le hz1);(try have hs2:=Nat.lt_of_succ_lt hs1);(try have y0:w.heap.size<w1.heap.size:=by omega);(try have y1:w.heap.size+1<w1.heap.size:=by omega);(try have y2:w.heap.size+2<w1.heap.size:=by omega))
         |(go_at_call 154;(with_reducible refine (SH.out _ ?_).mono ?_);(focus (exact HT.out.below (nl _) bel));rintro e w2 ⟨rfl,hb2⟩;obtain ⟨hc2,hf2⟩:=zA8 hb2;have hz2:=hb2.size;(try simp at hz2);(try simp only [heap_drew,World.heap_drewN] at hz2 hc2 hf2);(try have hs1:=Nat.lt_of_succ_le hz2);(try have hs2:=Nat.lt_of_succ_lt hs1);(try have y0:w.heap.size<w2.heap.size:=by omega);(try have y1:w.heap.size+1<w2.heap.size:=by omega);(try have y2:w.heap.size+2<w2.heap.size:=by omega)))
        go_ret
        exact ⟨rfl,bel⟩
   case neg=>
        have t3:(rs==0)=false:=by simpa using q3
        obtain rfl:V=false:=by rw [hV];exact zA0 fun h=>(by rcases hg.1 h with h |⟨_,_,_,h |h⟩;exact absurd h.1 (by omega);exact q3 h.2;cases h.1)
        clear hV hg q1 q2 q3
        go_enter Tryz.func112,Tryz.ntmps112
        go_wp2_with (first
         |(go_at_call 98;(with_reducible refine (S1.out _).mono ?_);rintro e w' ⟨rfl,rfl⟩)
         |(go_at_call 152;(with_reducible refine (SX.out _).mono ?_);rintro e w' ⟨rfl,rfl⟩)
         |(go_at_call 152;(with_reducible refine (SY.out _).mono ?_);rintro e w' ⟨rfl,rfl⟩)
         |(go_at_call 153;(with_reducible refine (SL.out _ _ _ ?_).mono ?_);(focus (exact zD4 (zD5 _ _ _ _)));rintro e w1 ⟨rfl,hb1⟩;obtain ⟨hc1,hf1⟩:=zA8 hb1;have hz1:=hb1.size;(try simp at hz1);(try simp only [heap_drew,World.heap_drewN] at hz1 hc1 hf1);(try have hs1:=Nat.lt_of_succ_le hz1);(try have hs2:=Nat.lt_of_succ_lt hs1);(try have y0:w.heap.size<w1.heap.size:=by omega);(try have y1:w.heap.size+1<w1.heap.size:=by omega);(try have y2:w.heap.size+2<w1.heap.size:=by omega))
         |(go_at_call 154;(with_reducible refine (SH.out _ ?_).mono ?_);(focus (exact HT.out.below (nl _) bel));rintro e w2 ⟨rfl,hb2⟩;obtain ⟨hc2,hf2⟩:=zA8 hb2;have hz2:=hb2.size;(try simp at hz2);(try simp only [heap_drew,World.heap_drewN] at hz2 hc2 hf2);(try have hs1:=Nat.lt_of_succ_le hz2);(try have hs2:=Nat.lt_of_succ_lt hs1);(try have y0:w.heap.size<w2.heap.size:=by omega);(try have y1:w.heap.size+1<w2.heap.size:=by omega);(try have y2:w.heap.size+2<w2.heap.size:=by omega)))
        go_ret
        exact ⟨rfl,bel⟩
  case true=>
   rcases HT.out.2 with h0 |⟨b,off,rfl,hT⟩
   ·exact absurd q2.1.1 (by omega)
   obtain ⟨m,rfl⟩:∃m,n=m+1:=⟨n - 1,by have:=q2.1.1;omega⟩
   have hb:=hT.1
   have l1:=(hT.2 m (by omega)).2
   have e2:IntKind.i64.wrap ((m:Int)+1 - 1)=(m:Int):=by rw [IntKind.wrap_i64];have:=q2.1.2.1;omega
   have e3:IntKind.i64.wrap (m:Int)=(m:Int):=by rw [IntKind.wrap_i64];have:=q2.1.2.1;omega
   have hm0:(0:Int)≤(m:Int):=by omega
   have hm1:(m:Int)<(m:Int)+1:=by omega
   have SZ:=LH fun w=>zI6 rs 0 (Y m) w
   have hVV:V=decide (0≤rs∧rs≤Y m):=by
        rw [hV]
        refine (zI3 ?_).symm
        rw [decide_eq_true_iff,hg]
        constructor
        ·intro h;exact .inr ⟨.inr rfl,q1,q2,.inr ⟨rfl,rfl,h.1,h.2⟩⟩
        ·rintro (h |⟨_,_,_,h |h⟩)
         ·exact absurd h.1 (by omega)
         ·cases h.1
         ·exact h.2.2
   rw [←hVV] at SZ
   have HC:Hid (∀w':World,Below w.heap.size w w'→w'.cell? ⟨b,off+m*2+1,none⟩=some (.int .i64 (Y m))):=fun w' h=>(h.cell (p:=⟨b,off+m*2+1,none⟩) hb).trans l1
   clear hV hVV hg q1 q2 hT
   go_enter Tryz.func112,Tryz.ntmps112
   go_upto_region 10 with (first
        |(go_at_call 98;(with_reducible refine (S1.out _).mono ?_);rintro e w' ⟨rfl,rfl⟩)
        |(go_at_call 152;(with_reducible refine (SX.out _).mono ?_);rintro e w' ⟨rfl,rfl⟩)
        |(go_at_call 152;(with_reducible refine (SY.out _).mono ?_);rintro e w' ⟨rfl,rfl⟩)
        |(go_at_call 153;(with_reducible refine (SL.out _ _ _ ?_).mono ?_);(focus (exact zD4 (zD5 _ _ _ _)));rintro e w1 ⟨rfl,hb1⟩;obtain ⟨hc1,hf1⟩:=zA8 hb1;have hz1:=hb1.size;(try simp at hz1);(try simp only [heap_drew,World.heap_drewN] at hz1 hc1 hf1);(try have hs1:=Nat.lt_of_succ_le hz1);(try have hs2:=Nat.lt_of_succ_lt hs1);(try have y0:w.heap.size<w1.heap.size:=by omega);(try have y1:w.heap.size+1<w1.heap.size:=by omega);(try have y2:w.heap.size+2<w1.heap.size:=by omega))
        |(go_at_call 154;(with_reducible refine (SH.out _ ?_).mono ?_);(focus (exact HT.out.below (nl _) bel));rintro e w2 ⟨rfl,hb2⟩;obtain ⟨hc2,hf2⟩:=zA8 hb2;have hz2:=hb2.size;(try simp at hz2);(try simp only [heap_drew,World.heap_drewN] at hz2 hc2 hf2);(try have hs1:=Nat.lt_of_succ_le hz2);(try have hs2:=Nat.lt_of_succ_lt hs1);(try have y0:w.heap.size<w2.heap.size:=by omega);(try have y1:w.heap.size+1<w2.heap.size:=by omega);(try have y2:w.heap.size+2<w2.heap.size:=by omega)))
   have hbw:=bR w.heap.size w
   have HW2:Hid (Below w.heap.size w w2):=bel
   have l2:=HC.out _ HW2.out
   go_quiet ((go_at_call 152;exact Calls.quiet_of_same ((SZ.out _).mono fun _ _ h=>⟨h.1,h.2.symm⟩)))
   go_wp2_with fail
   go_ret
   exact ⟨rfl,zD0 HW2.out _⟩
 have t12:(kd==2)=false:=by simpa using k2
 clear sh
 by_cases k3:kd=3
 case neg=>
  have t13:(kd==3)=false:=by simpa using k3
  obtain rfl:V=false:=by rw [hV];exact zA0 fun h=>(by rcases hg.1 h with h |h;exact k3 h.1;rcases h.1 with h |h;exact k1 h;exact k2 h)
  clear hV hg k1 k2 k3
  go_enter Tryz.func112,Tryz.ntmps112
  go_wp2_with (first
   |(go_at_call 98;(with_reducible refine (S1.out _).mono ?_);rintro e w' ⟨rfl,rfl⟩)
   |(go_at_call 152;(with_reducible refine (SX.out _).mono ?_);rintro e w' ⟨rfl,rfl⟩)
   |(go_at_call 152;(with_reducible refine (SY.out _).mono ?_);rintro e w' ⟨rfl,rfl⟩)
   |(go_at_call 153;(with_reducible refine (SL.out _ _ _ ?_).mono ?_);(focus (exact zD4 (zD5 _ _ _ _)));rintro e w1 ⟨rfl,hb1⟩;obtain ⟨hc1,hf1⟩:=zA8 hb1;have hz1:=hb1.size;(try simp at hz1);(try simp only [heap_drew,World.heap_drewN] at hz1 hc1 hf1);(try have hs1:=Nat.lt_of_succ_le hz1);(try have hs2:=Nat.lt_of_succ_lt hs1);(try have y0:w.heap.size<w1.heap.size:=by omega);(try have y1:w.heap.size+1<w1.heap.size:=by omega);(try have y2:w.heap.size+2<w1.heap.size:=by omega)))
  go_ret
  exact ⟨rfl,bel⟩
 subst k3
 by_cases q1:iv≤gd
 case neg=>
  have t1:decide (iv≤gd)=false:=dF q1
  obtain rfl:V=false:=by rw [hV];exact zA0 fun h=>(by rcases hg.1 h with h |h;exact q1 h.2.1;exact absurd h.1 (by omega))
  clear hV hg q1 k1 k2
  go_enter Tryz.func112,Tryz.ntmps112
  go_wp2_with (first
   |(go_at_call 98;(with_reducible refine (S1.out _).mono ?_);rintro e w' ⟨rfl,rfl⟩)
   |(go_at_call 152;(with_reducible refine (SX.out _).mono ?_);rintro e w' ⟨rfl,rfl⟩)
   |(go_at_call 152;(with_reducible refine (SY.out _).mono ?_);rintro e w' ⟨rfl,rfl⟩)
   |(go_at_call 153;(with_reducible refine (SL.out _ _ _ ?_).mono ?_);(focus (exact zD4 (zD5 _ _ _ _)));rintro e w1 ⟨rfl,hb1⟩;obtain ⟨hc1,hf1⟩:=zA8 hb1;have hz1:=hb1.size;(try simp at hz1);(try simp only [heap_drew,World.heap_drewN] at hz1 hc1 hf1);(try have hs1:=Nat.lt_of_succ_le hz1);(try have hs2:=Nat.lt_of_succ_lt hs1);(try have y0:w.heap.size<w1.heap.size:=by omega);(try have y1:w.heap.size+1<w1.heap.size:=by omega);(try have y2:w.heap.size+2<w1.heap.size:=by omega)))
  go_ret
  exact ⟨rfl,bel⟩
 have t1:decide (iv≤gd)=true:=dU q1
 by_cases q2:n=0
 case neg=>
  have t2:(n==0)=false:=by simpa using q2
  have t2':((n:Int)==0)=false:=by rw [beq_eq_false_iff_ne];omega
  obtain rfl:V=false:=by rw [hV];exact zA0 fun h=>(by rcases hg.1 h with h |h;exact q2 h.2.2.1;exact absurd h.1 (by omega))
  clear hV hg q1 q2 k1 k2
  go_enter Tryz.func112,Tryz.ntmps112
  go_wp2_with (first
   |(go_at_call 98;(with_reducible refine (S1.out _).mono ?_);rintro e w' ⟨rfl,rfl⟩)
   |(go_at_call 152;(with_reducible refine (SX.out _).mono ?_);rintro e w' ⟨rfl,rfl⟩)
   |(go_at_call 152;(with_reducible refine (SY.out _).mono ?_);rintro e w' ⟨rfl,rfl⟩)
   |(go_at_call 153;(with_reducible refine (SL.out _ _ _ ?_).mono ?_);(focus (exact zD4 (zD5 _ _ _ _)));rintro e w1 ⟨rfl,hb1⟩;obtain ⟨hc1,hf1⟩:=zA8 hb1;have hz1:=hb1.size;(try simp at hz1);(try simp only [heap_drew,World.heap_drewN] at hz1 hc1 hf1);(try have hs1:=Nat.lt_of_succ_le hz1);(try have hs2:=Nat.lt_of_succ_lt hs1);(try have y0:w.heap.size<w1.heap.size:=by omega);(try have y1:w.heap.size+1<w1.heap.size:=by omega);(try have y2:w.heap.size+2<w1.heap.size:=by omega)))
  go_ret
  exact ⟨rfl,bel⟩
 subst q2
 cases pt
 case true=>
  obtain rfl:V=false:=by rw [hV];exact zA0 fun h=>(by rcases hg.1 h with h |h;cases h.2.2.2.1;exact absurd h.1 (by omega))
  clear hV hg q1 k1 k2
  go_enter Tryz.func112,Tryz.ntmps112
  go_wp2_with (first
   |(go_at_call 98;(with_reducible refine (S1.out _).mono ?_);rintro e w' ⟨rfl,rfl⟩)
   |(go_at_call 152;(with_reducible refine (SX.out _).mono ?_);rintro e w' ⟨rfl,rfl⟩)
   |(go_at_call 152;(with_reducible refine (SY.out _).mono ?_);rintro e w' ⟨rfl,rfl⟩)
   |(go_at_call 153;(with_reducible refine (SL.out _ _ _ ?_).mono ?_);(focus (exact zD4 (zD5 _ _ _ _)));rintro e w1 ⟨rfl,hb1⟩;obtain ⟨hc1,hf1⟩:=zA8 hb1;have hz1:=hb1.size;(try simp at hz1);(try simp only [heap_drew,World.heap_drewN] at hz1 hc1 hf1);(try have hs1:=Nat.lt_of_succ_le hz1);(try have hs2:=Nat.lt_of_succ_lt hs1);(try have y0:w.heap.size<w1.heap.size:=by omega);(try have y1:w.heap.size+1<w1.heap.size:=by omega);(try have y2:w.heap.size+2<w1.heap.size:=by omega)))
  go_ret
  exact ⟨rfl,bel⟩
 case false=>
 by_cases q3:rs=0
 case neg=>
  have t3:(rs==0)=false:=by simpa using q3
  obtain rfl:V=false:=by rw [hV];exact zA0 fun h=>(by rcases hg.1 h with h |h;exact q3 h.2.2.2.2;exact absurd h.1 (by omega))
  clear hV hg q1 q3 k1 k2
  go_enter Tryz.func112,Tryz.ntmps112
  go_wp2_with (first
   |(go_at_call 98;(with_reducible refine (S1.out _).mono ?_);rintro e w' ⟨rfl,rfl⟩)
   |(go_at_call 152;(with_reducible refine (SX.out _).mono ?_);rintro e w' ⟨rfl,rfl⟩)
   |(go_at_call 152;(with_reducible refine (SY.out _).mono ?_);rintro e w' ⟨rfl,rfl⟩)
   |(go_at_call 153;(with_reducible refine (SL.out _ _ _ ?_).mono ?_);(focus (exact zD4 (zD5 _ _ _ _)));rintro e w1 ⟨rfl,hb1⟩;obtain ⟨hc1,hf1⟩:=zA8 hb1;have hz1:=hb1.size;(try simp at hz1);(try simp only [heap_drew,World.heap_drewN] at hz1 hc1 hf1);(try have hs1:=Nat.lt_of_succ_le hz1);(try have hs2:=Nat.lt_of_succ_lt hs1);(try have y0:w.heap.size<w1.heap.size:=by omega);(try have y1:w.heap.size+1<w1.heap.size:=by omega);(try have y2:w.heap.size+2<w1.heap.size:=by omega)))
  go_ret
  exact ⟨rfl,bel⟩
 subst q3
 obtain rfl:V=true:=by rw [hV];exact zA2 (hg.2 (.inl ⟨rfl,q1,rfl,rfl,rfl⟩))
 clear hV hg q1 k1 k2
 go_enter Tryz.func112,Tryz.ntmps112
 go_wp2_with (first
  |(go_at_call 98;(with_reducible refine (S1.out _).mono ?_);rintro e w' ⟨rfl,rfl⟩)
  |(go_at_call 152;(with_reducible refine (SX.out _).mono ?_);rintro e w' ⟨rfl,rfl⟩)
  |(go_at_call 152;(with_reducible refine (SY.out _).mono ?_);rintro e w' ⟨rfl,rfl⟩)
  |(go_at_call 153;(with_reducible refine (SL.out _ _ _ ?_).mono ?_);(focus (exact zD4 (zD5 _ _ _ _)));rintro e w1 ⟨rfl,hb1⟩;obtain ⟨hc1,hf1⟩:=zA8 hb1;have hz1:=hb1.size;(try simp at hz1);(try simp only [heap_drew,World.heap_drewN] at hz1 hc1 hf1);(try have hs1:=Nat.lt_of_succ_le hz1);(try have hs2:=Nat.lt_of_succ_lt hs1);(try have y0:w.heap.size<w1.heap.size:=by omega);(try have y1:w.heap.size+1<w1.heap.size:=by omega);(try have y2:w.heap.size+2<w1.heap.size:=by omega)))
 go_ret
 exact ⟨rfl,bel⟩
end Go.Proofs.YtchakniaoeodmaaGreatDoor

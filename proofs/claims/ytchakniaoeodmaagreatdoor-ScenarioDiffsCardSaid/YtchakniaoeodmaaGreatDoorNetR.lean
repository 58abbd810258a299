/- RightNode of the reference of networks. -/
import Derived.Test.YtchakniaoeodmaaGreatDoorMgL
namespace Go.Proofs.YtchakniaoeodmaaGreatDoor
open Go.RowKit
set_option linter.unusedVariables false
set_option linter.unusedSimpArgs false
set_option maxRecDepth 100000 in
set_option maxHeartbeats 4000000 in
theorem rnode (nm:ByteArray) (kd ax ay iv gd:Int) (A:Option Addr) (n c:Nat) (X Y:Nat→Int) (pt:Bool) (rs:Int) (hn:nm.size≤maxLen) (w:World) (ht:TabIn w A n X Y):
 Calls Tryz.prog 61 #[.agg #[.string nm,.int .i64 kd,.int .i64 ax,.int .i64 ay,.int .i64 iv,.int .i64 gd,.slice A n c,.bool pt,.int .i64 rs]] w fun e w'=>e= .returned (.bool (boolOf (zQ1 nm kd ax ay iv gd n X Y pt rs)))∧Below w.heap.size w w':=by
 have HT:=LH ht
 have S1:=LH fun w=>zT2 nm hn w
 have sx:=fun w=>rposit ax w
 have sy:=fun w=>rposit ay w
 have sl:=fun w=>rlev iv w
 have sm:=fun w=>rlev gd w
 have sh:=fun w h=>rshape A n c X Y (gd - iv) w h
 obtain ⟨V,hV⟩:∃V,V=boolOf (zQ1 nm kd ax ay iv gd n X Y pt rs):=⟨_,rfl⟩
 rw [←hV]
 clear ht hn
 by_cases g0:zD1 nm.data.toList=true
 case neg=>
  have g0':zD1 nm.data.toList=false:=by simpa using g0
  rw [g0'] at S1
  have SX:=LH sx
  have SY:=LH sy
  have SL:=LH sl
  have SM:=LH sm
  have SH:=LH sh
  obtain rfl:V=false:=by rw [hV];exact zA0 fun h=>g0 h.1
  clear hV g0 g0' sx sy sl sm sh
  go_enter Tryz.func61,Tryz.ntmps61
  go_wp2_with (first
   |(go_at_call 63;(with_reducible refine (S1.out _).mono ?_);rintro e w' ⟨rfl,rfl⟩))
  go_ret
  exact ⟨rfl,bel⟩
 rw [g0] at S1
 by_cases g1:poP ax
 case neg=>
  rw [dF g1] at sx
  have SX:=LH sx
  have SY:=LH sy
  have SL:=LH sl
  have SM:=LH sm
  have SH:=LH sh
  obtain rfl:V=false:=by rw [hV];exact zA0 fun h=>g1 h.2.1
  clear hV g0 g1 sx sy sl sm sh
  go_enter Tryz.func61,Tryz.ntmps61
  go_wp2_with (first
   |(go_at_call 63;(with_reducible refine (S1.out _).mono ?_);rintro e w' ⟨rfl,rfl⟩)
   |(go_at_call 101;(with_reducible refine (SX.out _).mono ?_);rintro e w' ⟨rfl,rfl⟩))
  go_ret
  exact ⟨rfl,bel⟩
 rw [dU g1] at sx
 have SX:=LH sx
 by_cases g2:poP ay
 case neg=>
  rw [dF g2] at sy
  have SY:=LH sy
  have SL:=LH sl
  have SM:=LH sm
  have SH:=LH sh
  obtain rfl:V=false:=by rw [hV];exact zA0 fun h=>g2 h.2.2.1
  clear hV g0 g1 g2 sx sy sl sm sh
  go_enter Tryz.func61,Tryz.ntmps61
  go_wp2_with (first
   |(go_at_call 63;(with_reducible refine (S1.out _).mono ?_);rintro e w' ⟨rfl,rfl⟩)
   |(go_at_call 101;(with_reducible refine (SX.out _).mono ?_);rintro e w' ⟨rfl,rfl⟩)
   |(go_at_call 101;(with_reducible refine (SY.out _).mono ?_);rintro e w' ⟨rfl,rfl⟩))
  go_ret
  exact ⟨rfl,bel⟩
 rw [dU g2] at sy
 have SY:=LH sy
 by_cases g3:lvP iv
 case neg=>
  rw [dF g3] at sl
  have SL:=LH sl
  have SM:=LH sm
  have SH:=LH sh
  obtain rfl:V=false:=by rw [hV];exact zA0 fun h=>g3 h.2.2.2.1.1
  clear hV g0 g1 g2 g3 sx sy sl sm sh
  go_enter Tryz.func61,Tryz.ntmps61
  go_wp2_with (first
   |(go_at_call 63;(with_reducible refine (S1.out _).mono ?_);rintro e w' ⟨rfl,rfl⟩)
   |(go_at_call 101;(with_reducible refine (SX.out _).mono ?_);rintro e w' ⟨rfl,rfl⟩)
   |(go_at_call 101;(with_reducible refine (SY.out _).mono ?_);rintro e w' ⟨rfl,rfl⟩)
   |(go_at_call 102;(with_reducible refine (SL.out _).mono ?_);rintro e w' ⟨rfl,rfl⟩))
  go_ret
  exact ⟨rfl,bel⟩
 rw [dU g3] at sl
 have SL:=LH sl
 by_cases g4:lvP gd
 case neg=>
  rw [dF g4] at sm
  have SM:=LH sm
  have SH:=LH sh
  obtain rfl:V=false:=by rw [hV];exact zA0 fun h=>g4 h.2.2.2.1.2
  clear hV g0 g1 g2 g3 g4 sx sy sl sm sh
  go_enter Tryz.func61,Tryz.ntmps61
  go_wp2_with (first
   |(go_at_call 63;(with_reducible refine (S1.out _).mono ?_);rintro e w' ⟨rfl,rfl⟩)
   |(go_at_call 101;(with_reducible refine (SX.out _).mono ?_);rintro e w' ⟨rfl,rfl⟩)
   |(go_at_call 101;(with_reducible refine (SY.out _).mono ?_);rintro e w' ⟨rfl,rfl⟩)
   |(go_at_call 102;(with_reducible refine (SL.out _).mono ?_);rintro e w' ⟨rfl,rfl⟩)
   |(go_at_call 102;(with_reducible refine (SM.out _).mono ?_);rintro e w' ⟨rfl,rfl⟩))
  go_ret
  exact ⟨rfl,bel⟩
 rw [dU g4] at sm
 have SM:=LH sm
 have hg:zQ1 nm kd ax ay iv gd n X Y pt rs↔((kd=3∧iv≤gd∧n=0∧pt=false∧rs=0)∨((kd=1∨kd=2)∧iv<gd∧CurveOK n X Y (gd - iv) 1125899906842624∧((pt=false∧rs=0)∨(pt=true∧kd=2∧0≤rs∧rs≤Y (n - 1))))):=by
  unfold zQ1
  exact ⟨fun h=>h.2.2.2.2,fun h=>⟨g0,g1,g2,⟨g3,g4⟩,h⟩⟩
 have hw:IntKind.i64.wrap (gd - iv)=gd - iv:=by
  unfold lvP at g3 g4
  rw [IntKind.wrap_i64];omega
 clear g0 g1 g2 g3 g4 sx sy sl sm
 by_cases k1:kd=1
 case pos=>
  subst k1
  by_cases q1:iv<gd
  case neg=>
   have t1:decide (gd≤iv)=true:=dU (by omega)
   have SH:=LH sh
   obtain rfl:V=false:=by rw [hV];exact zA0 fun h=>(by rcases hg.1 h with h |h<;> omega)
   clear hV hg q1 sh
   go_enter Tryz.func61,Tryz.ntmps61
   go_wp2_with (first
        |(go_at_call 63;(with_reducible refine (S1.out _).mono ?_);rintro e w' ⟨rfl,rfl⟩)
        |(go_at_call 101;(with_reducible refine (SX.out _).mono ?_);rintro e w' ⟨rfl,rfl⟩)
        |(go_at_call 101;(with_reducible refine (SY.out _).mono ?_);rintro e w' ⟨rfl,rfl⟩)
        |(go_at_call 102;(with_reducible refine (SL.out _).mono ?_);rintro e w' ⟨rfl,rfl⟩)
        |(go_at_call 102;(with_reducible refine (SM.out _).mono ?_);rintro e w' ⟨rfl,rfl⟩))
   go_ret
   exact ⟨rfl,bel⟩
  have t1:decide (gd≤iv)=false:=dF (by omega)
  by_cases q2:CurveOK n X Y (gd - iv) 1125899906842624
  case neg=>
   rw [zA0 q2] at sh
   have SH:=LH sh
   obtain rfl:V=false:=by rw [hV];exact zA0 fun h=>(by rcases hg.1 h with h |h;exact absurd h.1 (by omega);exact q2 h.2.2.1)
   clear hV hg q1 q2 sh
   go_enter Tryz.func61,Tryz.ntmps61
   go_wp2_with (first
        |(go_at_call 63;(with_reducible refine (S1.out _).mono ?_);rintro e w' ⟨rfl,rfl⟩)
        |(go_at_call 101;(with_reducible refine (SX.out _).mono ?_);rintro e w' ⟨rfl,rfl⟩)
        |(go_at_call 101;(with_reducible refine (SY.out _).mono ?_);rintro e w' ⟨rfl,rfl⟩)
        |(go_at_call 102;(with_reducible refine (SL.out _).mono ?_);rintro e w' ⟨rfl,rfl⟩)
        |(go_at_call 102;(with_reducible refine (SM.out _).mono ?_);rintro e w' ⟨rfl,rfl⟩)
        |(go_at_call 103;(with_reducible refine (SH.out _ ?_).mono ?_);(focus (exact HT.out.below (nl _) bel));rintro e w1 ⟨rfl,hb1⟩;obtain ⟨hc1,hf1⟩:=zA8 hb1;have hz1:=hb1.size;(try simp at hz1);(try simp only [heap_drew,World.heap_drewN] at hz1 hc1 hf1);(try have hs1:=Nat.lt_of_succ_le hz1);(try have hs2:=Nat.lt_of_succ_lt hs1);(try have y0:w.heap.size<w1.heap.size:=by omega);(try have y1:w.heap.size+1<w1.heap.size:=by omega);(try have y2:w.heap.size+2<w1.heap.size:=by omega)))
   go_ret
   exact ⟨rfl,bel⟩
  rw [zA2 q2] at sh
  have SH:=LH sh
  clear sh
  cases pt
  case false=>
   by_cases q3:rs=0
   case pos=>
        subst q3
        obtain rfl:V=true:=by rw [hV];exact zA2 (hg.2 (.inr ⟨.inl rfl,q1,q2,.inl ⟨rfl,rfl⟩⟩))
        clear hV hg q1 q2
        go_enter Tryz.func61,Tryz.ntmps61
        go_wp2_with (first
         |(go_at_call 63;(with_reducible refine (S1.out _).mono ?_);rintro e w' ⟨rfl,rfl⟩)
         |(go_at_call 101;(with_reducible refine (SX.out _).mono ?_);rintro e w' ⟨rfl,rfl⟩)
         |(go_at_call 101;(with_reducible refine (SY.out _).mono ?_);rintro e w' ⟨rfl,rfl⟩)
         |(go_at_call 102;(with_reducible refine (SL.out _).mono ?_);rintro e w' ⟨rfl,rfl⟩)
         |(go_at_call 102;(with_reducible refine (SM.out _).mono ?_);rintro e w' ⟨rfl,rfl⟩)
         |(go_at_call 103;(with_reducible refine (SH.out _ ?_).mono ?_);(focus (exact HT.out.below (nl _) bel));rintro e w1 ⟨rfl,hb1⟩;obtain ⟨hc1,hf1⟩:=zA8 hb1;have hz1:=hb1.size;(try simp at hz1);(try simp only [heap_drew,World.heap_drewN] at hz1 hc1 hf1);(try have hs1:=Nat.lt_of_succ_le hz1);(try have hs2:=Nat.lt_of_succ_lt hs1);(try have y0:w.heap.size<w1.heap.size:=by omega);(try have y1:w.heap.size+1<w1.heap.size:=by omega);(try have y2:w.heap.size+2<w1.heap.size:=by omega)))
        go_ret
        exact ⟨rfl,bel⟩
   case neg=>
        have t3:(rs==0)=false:=by simpa using q3
        obtain rfl:V=false:=by rw [hV];exact zA0 fun h=>(by rcases hg.1 h with h |⟨_,_,_,h |h⟩;exact absurd h.1 (by omega);exact q3 h.2;cases h.1)
        clear hV hg q1 q2 q3
        go_enter Tryz.func61,Tryz.ntmps61
        go_wp2_with (first
         |(go_at_call 63;(with_reducible refine (S1.out _).mono ?_);rintro e w' ⟨rfl,rfl⟩)
         |(go_at_call 101;(with_reducible refine (SX.out _).mono ?_);rintro e w' ⟨rfl,rfl⟩)
         |(go_at_call 101;(with_reducible refine (SY.out _).mono ?_);rintro e w' ⟨rfl,rfl⟩)
         |(go_at_call 102;(with_reducible refine (SL.out _).mono ?_);rintro e w' ⟨rfl,rfl⟩)
         |(go_at_call 102;(with_reducible refine (SM.out _).mono ?_);rintro e w' ⟨rfl,rfl⟩)
         |(go_at_call 103;(with_reducible refine (SH.out _ ?_).mono ?_);(focus (exact HT.out.below (nl _) bel));rintro e w1 ⟨rfl,hb1⟩;obtain ⟨hc1,hf1⟩:=zA8 hb1;have hz1:=hb1.size;(try simp at hz1);(try simp only [heap_drew,World.heap_drewN] at hz1 hc1 hf1);(try have hs1:=Nat.lt_of_succ_le hz1);(try have hs2:=Nat.lt_of_succ_lt hs1);(try have y0:w.heap.size<w1.heap.size:=by omega);(try have y1:w.heap.size+1<w1.heap.size:=by omega);(try have y2:w.heap.size+2<w1.heap.size:=by omega)))
        go_ret
        exact ⟨rfl,bel⟩
  case true=>
   obtain rfl:V=false:=by rw [hV];exact zA0 fun h=>(by rcases hg.1 h with h |⟨_,_,_,h |h⟩;exact absurd h.1 (by omega);cases h.1;exact absurd h.2.1 (by omega))
   clear hV hg q1 q2
   go_enter Tryz.func61,Tryz.ntmps61
   go_upto_region 12 with (first
        |(go_at_call 63;(with_reducible refine (S1.out _).mono ?_);rintro e w' ⟨rfl,rfl⟩)
        |(go_at_call 101;(with_reducible refine (SX.out _).mono ?_);rintro e w' ⟨rfl,rfl⟩)
        |(go_at_call 101;(with_reducible refine (SY.out _).mono ?_);rintro e w' ⟨rfl,rfl⟩)
        |(go_at_call 102;(with_reducible refine (SL.out _).mono ?_);rintro e w' ⟨rfl,rfl⟩)
        |(go_at_call 102;(with_reducible refine (SM.out _).mono ?_);rintro e w' ⟨rfl,rfl⟩)
        |(go_at_call 103;(with_reducible refine (SH.out _ ?_).mono ?_);(focus (exact HT.out.below (nl _) bel));rintro e w1 ⟨rfl,hb1⟩;obtain ⟨hc1,hf1⟩:=zA8 hb1;have hz1:=hb1.size;(try simp at hz1);(try simp only [heap_drew,World.heap_drewN] at hz1 hc1 hf1);(try have hs1:=Nat.lt_of_succ_le hz1);(try have hs2:=Nat.lt_of_succ_lt hs1);(try have y0:w.heap.size<w1.heap.size:=by omega);(try have y1:w.heap.size+1<w1.heap.size:=by omega);(try have y2:w.heap.size+2<w1.heap.size:=by omega)))
   have HW1:Hid (Below w.heap.size w w1):=(by have hbw:=bR w.heap.size w;exact bel)
   go_quiet (fail)
   go_wp2_with fail
   go_ret
   exact ⟨rfl,zD0 HW1.out _⟩
 have t11:(kd==1)=false:=by simpa using k1
 by_cases k2:kd=2
 case pos=>
  subst k2
  by_cases q1:iv<gd
  case neg=>
   have t1:decide (gd≤iv)=true:=dU (by omega)
   have SH:=LH sh
   obtain rfl:V=false:=by rw [hV];exact zA0 fun h=>(by rcases hg.1 h with h |h<;> omega)
   clear hV hg q1 sh
   go_enter Tryz.func61,Tryz.ntmps61
   go_wp2_with (first
        |(go_at_call 63;(with_reducible refine (S1.out _).mono ?_);rintro e w' ⟨rfl,rfl⟩)
        |(go_at_call 101;(with_reducible refine (SX.out _).mono ?_);rintro e w' ⟨rfl,rfl⟩)
        |(go_at_call 101;(with_reducible refine (SY.out _).mono ?_);rintro e w' ⟨rfl,rfl⟩)
        |(go_at_call 102;(with_reducible refine (SL.out _).mono ?_);rintro e w' ⟨rfl,rfl⟩)
        |(go_at_call 102;(with_reducible refine (SM.out _).mono ?_);rintro e w' ⟨rfl,rfl⟩))
   go_ret
   exact ⟨rfl,bel⟩
  have t1:decide (gd≤iv)=false:=dF (by omega)
  by_cases q2:CurveOK n X Y (gd - iv) 1125899906842624
  case neg=>
   rw [zA0 q2] at sh
   have SH:=LH sh
   obtain rfl:V=false:=by rw [hV];exact zA0 fun h=>(by rcases hg.1 h with h |h;exact absurd h.1 (by omega);exact q2 h.2.2.1)
   clear hV hg q1 q2 sh
   go_enter Tryz.func61,Tryz.ntmps61
   go_wp2_with (first
        |(go_at_call 63;(with_reducible refine (S1.out _).mono ?_);rintro e w' ⟨rfl,rfl⟩)
        |(go_at_call 101;(with_reducible refine (SX.out _).mono ?_);rintro e w' ⟨rfl,rfl⟩)
        |(go_at_call 101;(with_reducible refine (SY.out _).mono ?_);rintro e w' ⟨rfl,rfl⟩)
        |(go_at_call 102;(with_reducible refine (SL.out _).mono ?_);rintro e w' ⟨rfl,rfl⟩)
        |(go_at_call 102;(with_reducible refine (SM.out _).mono ?_);rintro e w' ⟨rfl,rfl⟩)
        |(go_at_call 103;(with_reducible refine (SH.out _ ?_).mono ?_);(focus (exact HT.out.below (nl _) bel));rintro e w1 ⟨rfl,hb1⟩;obtain ⟨hc1,hf1⟩:=zA8 hb1;have hz1:=hb1.size;(try simp at hz1);(try simp only [heap_drew,World.heap_drewN] at hz1 hc1 hf1);(try have hs1:=Nat.lt_of_succ_le hz1);(try have hs2:=Nat.lt_of_succ_lt hs1);(try have y0:w.heap.size<w1.heap.size:=by omega);(try have y1:w.heap.size+1<w1.heap.size:=by omega);(try have y2:w.heap.size+2<w1.heap.size:=by omega)))
   go_ret
   exact ⟨rfl,bel⟩
  rw [zA2 q2] at sh
  have SH:=LH sh
  clear sh
  cases pt
  case false=>
   by_cases q3:rs=0
   case pos=>
        subst q3
        obtain rfl:V=true:=by rw [hV];exact zA2 (hg.2 (.inr ⟨.inr rfl,q1,q2,.inl ⟨rfl,rfl⟩⟩))
        clear hV hg q1 q2
        go_enter Tryz.func61,Tryz.ntmps61
        go_wp2_with (first
         |(go_at_call 63;(with_reducible refine (S1.out _).mono ?_);rintro e w' ⟨rfl,rfl⟩)
         |(go_at_call 101;(with_reducible refine (SX.out _).mono ?_);rintro e w' ⟨rfl,rfl⟩)
         |(go_at_call 101;(with_reducible refine (SY.out _).mono ?_);rintro e w' ⟨rfl,rfl⟩)
         |(go_at_call 102;(with_reducible refine (SL.out _).mono ?_);rintro e w' ⟨rfl,rfl⟩)
         |(go_at_call 102;(with_reducible refine (SM.out _).mono ?_);rintro e w' ⟨rfl,rfl⟩)
         |(go_at_call 103;(with_reducible refine (SH.out _ ?_).mono ?_);(focus (exact HT.out.below (nl _) bel));rintro e w1 ⟨rfl,hb1⟩;obtain ⟨hc1,hf1⟩:=zA8 hb1;have hz1:=hb1.size;(try simp at hz1);(try simp only [heap_drew,World.heap_drewN] at hz1 hc1 hf1);(try have hs1:=Nat.lt_of_succ_le hz1);(try have hs2:=Nat.lt_of_succ_lt hs1);(try have y0:w.heap.size<w1.heap.size:=by omega);(try have y1:w.heap.size+1<w1.heap.size:=by omega);(try have y2:w.heap.size+2<w1.heap.size:=by omega)))
        go_ret
        exact ⟨rfl,bel⟩
   case neg=>
        have t3:(rs==0)=false:=by simpa using q3
        obtain rfl:V=false:=by rw [hV];exact zA0 fun h=>(by rcases hg.1 h with h |⟨_,_,_,h |h⟩;exact absurd h.1 (by omega);exact q3 h.2;cases h.1)
        clear hV hg q1 q2 q3
        go_enter Tryz.func61,Tryz.ntmps61
        go_wp2_with (first
         |(go_at_call 63;(with_reducible refine (S1.out _).mono ?_);rintro e w' ⟨rfl,rfl⟩)
         |(go_at_call 101;(with_reducible refine (SX.out _).mono ?_);rintro e w' ⟨rfl,rfl⟩)
         |(go_at_call 101;(with_reducible refine (SY.out _).mono ?_);rintro e w' ⟨rfl,rfl⟩)
         |(go_at_call 102;(with_reducible refine (SL.out _).mono ?_);rintro e w' ⟨rfl,rfl⟩)
         |(go_at_call 102;(with_reducible refine (SM.out _).mono ?_);rintro e w' ⟨rfl,rfl⟩)
         |(go_at_call 103;(with_reducible refine (SH.out _ ?_).mono ?_);(focus (exact HT.out.below (nl _) bel));rintro e w1 ⟨rfl,hb1⟩;obtain ⟨hc1,hf1⟩:=zA8 hb1;have hz1:=hb1.size;(try simp at hz1);(try simp only [heap_drew,World.heap_drewN] at hz1 hc1 hf1);(try have hs1:=Nat.lt_of_succ_le hz1);(try have hs2:=Nat.lt_of_succ_lt hs1);(try have y0:w.heap.size<w1.heap.size:=by omega);(try have y1:w.heap.size+1<w1.heap.size:=by omega);(try have y2:w.heap.size+2<w1.heap.size:=by omega)))
        go_ret
        exact ⟨rfl,bel⟩
  case true=>
   rcases HT.out.2 with h0 |⟨b,off,rfl,hT⟩
   ·exact absurd q2.1.1 (by omega)
   obtain ⟨m,rfl⟩:∃m,n=m+1:=⟨n - 1,by have:=q2.1.1;omega⟩
   have hb:=hT.1
   have l1:=(hT.2 m (by omega)).2
   have e2:IntKind.i64.wrap ((m:Int)+1 - 1)=(m:Int):=by rw [IntKind.wrap_i64];have:=q2.1.2.1;omega
   have e3:IntKind.i64.wrap (m:Int)=(m:Int):=by rw [IntKind.wrap_i64];have:=q2.1.2.1;omega
   have hm0:(0:Int)≤(m:Int):=by omega
   have hm1:(m:Int)<(m:Int)+1:=by omega
   have HC:Hid (∀w':World,Below w.heap.size w w'→w'.cell? ⟨b,off+m*2+1,none⟩=some (.int .i64 (Y m))):=fun w' h=>(h.cell (p:=⟨b,off+m*2+1,none⟩) hb).trans l1
   by_cases r1:0≤rs
   case neg=>
        have t5:decide (0≤rs)=false:=dF r1
        obtain rfl:V=false:=by rw [hV];exact zA0 fun h=>(by rcases hg.1 h with h |⟨_,_,_,h |h⟩;exact absurd h.1 (by omega);cases h.1;exact r1 h.2.2.1)
        clear hV hg q1 q2 hT r1
        go_enter Tryz.func61,Tryz.ntmps61
        go_upto_region 12 with (first
         |(go_at_call 63;(with_reducible refine (S1.out _).mono ?_);rintro e w' ⟨rfl,rfl⟩)
         |(go_at_call 101;(with_reducible refine (SX.out _).mono ?_);rintro e w' ⟨rfl,rfl⟩)
         |(go_at_call 101;(with_reducible refine (SY.out _).mono ?_);rintro e w' ⟨rfl,rfl⟩)
         |(go_at_call 102;(with_reducible refine (SL.out _).mono ?_);rintro e w' ⟨rfl,rfl⟩)
         |(go_at_call 102;(with_reducible refine (SM.out _).mono ?_);rintro e w' ⟨rfl,rfl⟩)
         |(go_at_call 103;(with_reducible refine (SH.out _ ?_).mono ?_);(focus (exact HT.out.below (nl _) bel));rintro e w1 ⟨rfl,hb1⟩;obtain ⟨hc1,hf1⟩:=zA8 hb1;have hz1:=hb1.size;(try simp at hz1);(try simp only [heap_drew,World.heap_drewN] at hz1 hc1 hf1);(try have hs1:=Nat.lt_of_succ_le hz1);(try have hs2:=Nat.lt_of_succ_lt hs1);(try have y0:w.heap.size<w1.heap.size:=by omega);(try have y1:w.heap.size+1<w1.heap.size:=by omega);(try have y2:w.heap.size+2<w1.heap.size:=by omega)))
        have HW1:Hid (Below w.heap.size w w1):=(by have hbw:=bR w.heap.size w;exact bel)
        go_quiet (fail)
        go_wp2_with fail
        go_ret
        exact ⟨rfl,zD0 HW1.out _⟩
   have t5:decide (0≤rs)=true:=dU r1
   by_cases r2:rs≤Y m
   case neg=>
        have t6:decide (rs≤Y m)=false:=dF r2
        obtain rfl:V=false:=by rw [hV];exact zA0 fun h=>(by rcases hg.1 h with h |⟨_,_,_,h |h⟩;exact absurd h.1 (by omega);cases h.1;exact r2 h.2.2.2)
        clear hV hg q1 q2 hT r1 r2
        go_enter Tryz.func61,Tryz.ntmps61
        go_upto_region 12 with (first
         |(go_at_call 63;(with_reducible refine (S1.out _).mono ?_);rintro e w' ⟨rfl,rfl⟩)
         |(go_at_call 101;(with_reducible refine (SX.out _).mono ?_);rintro e w' ⟨rfl,rfl⟩)
         |(go_at_call 101;(with_reducible refine (SY.out _).mono ?_);rintro e w' ⟨rfl,rfl⟩)
         |(go_at_call 102;(with_reducible refine (SL.out _).mono ?_);rintro e w' ⟨rfl,rfl⟩)
         |(go_at_call 102;(with_reducible refine (SM.out _).mono ?_);rintro e w' ⟨rfl,rfl⟩)
         |(go_at_call 103;(with_reducible refine (SH.out _ ?_).mono ?_);(focus (exact HT.out.below (nl _) bel));rintro e w1 ⟨rfl,hb1⟩;obtain ⟨hc1,hf1⟩:=zA8 hb1;have hz1:=hb1.size;(try simp at hz1);(try simp only [heap_drew,World.heap_drewN] at hz1 hc1 hf1);(try have hs1:=Nat.lt_of_succ_le hz1);(try have hs2:=Nat.lt_of_succ_lt hs1);(try have y0:w.heap.size<w1.heap.size:=by omega);(try have y1:w.heap.size+1<w1.heap.size:=by omega);(try have y2:w.heap.size+2<w1.heap.size:=by omega)))
        have HW1:Hid (Below w.heap.size w w1):=(by have hbw:=bR w.heap.size w;exact bel)
        have l2:=HC.out _ HW1.out
        go_quiet (fail)
        go_wp2_with fail
        go_ret
        exact ⟨rfl,zD0 HW1.out _⟩
   have t6:decide (rs≤Y m)=true:=dU r2
   obtain rfl:V=true:=by rw [hV];exact zA2 (hg.2 (.inr ⟨.inr rfl,q1,q2,.inr ⟨rfl,rfl,r1,r2⟩⟩))
   clear hV hg q1 q2 hT r1 r2
   go_enter Tryz.func61,Tryz.ntmps61
   go_upto_region 12 with (first
        |(go_at_call 63;(with_reducible refine (S1.out _).mono ?_);rintro e w' ⟨rfl,rfl⟩)
        |(go_at_call 101;(with_reducible refine (SX.out _).mono ?_);rintro e w' ⟨rfl,rfl⟩)
        |(go_at_call 101;(with_reducible refine (SY.out _).mono ?_);rintro e w' ⟨rfl,rfl⟩)
        |(go_at_call 102;(with_reducible refine (SL.out _).mono ?_);rintro e w' ⟨rfl,rfl⟩)
        |(go_at_call 102;(with_reducible refine (SM.out _).mono ?_);rintro e w' ⟨rfl,rfl⟩)
        |(go_at_call 103;(with_reducible refine (SH.out _ ?_).mono ?_);(focus (exact HT.out.below (nl _) bel));rintro e w1 ⟨rfl,hb1⟩;obtain ⟨hc1,hf1⟩:=zA8 hb1;have hz1:=hb1.size;(try simp at hz1);(try simp only [heap_drew,World.heap_drewN] at hz1 hc1 hf1);(try have hs1:=Nat.lt_of_succ_le hz1);(try have hs2:=Nat.lt_of_succ_lt hs1);(try have y0:w.heap.size<w1.heap.size:=by omega);(try have y1:w.heap.size+1<w1.heap.size:=by omega);(try have y2:w.heap.size+2<w1.heap.size:=by omega)))
   have HW1:Hid (Below w.heap.size w w1):=(by have hbw:=bR w.heap.size w;exact bel)
   have l2:=HC.out _ HW1.out
   go_quiet (fail)
   go_wp2_with fail
   go_ret
   exact ⟨rfl,zD0 HW1.out _⟩
 have t12:(kd==2)=false:=by simpa using k2
 clear sh
 by_cases k3:kd=3
 case neg=>
  have t13:(kd==3)=false:=by simpa using k3
  obtain rfl:V=false:=by rw [hV];exact zA0 fun h=>(by rcases hg.1 h with h |h;exact k3 h.1;rcases h.1 with h |h;exact k1 h;exact k2 h)
  clear hV hg k1 k2 k3
  go_enter Tryz.func61,Tryz.ntmps61
  go_wp2_with (first
   |(go_at_call 63;(with_reducible refine (S1.out _).mono ?_);rintro e w' ⟨rfl,rfl⟩)
   |(go_at_call 101;(with_reducible refine (SX.out _).mono ?_);rintro e w' ⟨rfl,rfl⟩)
   |(go_at_call 101;(with_reducible refine (SY.out _).mono ?_);rintro e w' ⟨rfl,rfl⟩)
   |(go_at_call 102;(with_reducible refine (SL.out _).mono ?_);rintro e w' ⟨rfl,rfl⟩)
   |(go_at_call 102;(with_reducible refine (SM.out _).mono ?_);rintro e w' ⟨rfl,rfl⟩))
  go_ret
  exact ⟨rfl,bel⟩
 subst k3
 by_cases q1:iv≤gd
 case neg=>
  have t1:decide (iv≤gd)=false:=dF q1
  obtain rfl:V=false:=by rw [hV];exact zA0 fun h=>(by rcases hg.1 h with h |h;exact q1 h.2.1;exact absurd h.1 (by omega))
  clear hV hg q1 k1 k2
  go_enter Tryz.func61,Tryz.ntmps61
  go_wp2_with (first
   |(go_at_call 63;(with_reducible refine (S1.out _).mono ?_);rintro e w' ⟨rfl,rfl⟩)
   |(go_at_call 101;(with_reducible refine (SX.out _).mono ?_);rintro e w' ⟨rfl,rfl⟩)
   |(go_at_call 101;(with_reducible refine (SY.out _).mono ?_);rintro e w' ⟨rfl,rfl⟩)
   |(go_at_call 102;(with_reducible refine (SL.out _).mono ?_);rintro e w' ⟨rfl,rfl⟩)
   |(go_at_call 102;(with_reducible refine (SM.out _).mono ?_);rintro e w' ⟨rfl,rfl⟩))
  go_ret
  exact ⟨rfl,bel⟩
 have t1:decide (iv≤gd)=true:=dU q1
 by_cases q2:n=0
 case neg=>
  have t2:(n==0)=false:=by simpa using q2
  have t2':((n:Int)==0)=false:=by rw [beq_eq_false_iff_ne];omega
  obtain rfl:V=false:=by rw [hV];exact zA0 fun h=>(by rcases hg.1 h with h |h;exact q2 h.2.2.1;exact absurd h.1 (by omega))
  clear hV hg q1 q2 k1 k2
  go_enter Tryz.func61,Tryz.ntmps61
  go_wp2_with (first
   |(go_at_call 63;(with_reducible refine (S1.out _).mono ?_);rintro e w' ⟨rfl,rfl⟩)
   |(go_at_call 101;(with_reducible refine (SX.out _).mono ?_);rintro e w' ⟨rfl,rfl⟩)
   |(go_at_call 101;(with_reducible refine (SY.out _).mono ?_);rintro e w' ⟨rfl,rfl⟩)
   |(go_at_call 102;(with_reducible refine (SL.out _).mono ?_);rintro e w' ⟨rfl,rfl⟩)
   |(go_at_call 102;(with_reducible refine (SM.out _).mono ?_);rintro e w' ⟨rfl,rfl⟩))
  go_ret
  exact ⟨rfl,bel⟩
 subst q2
 cases pt
 case true=>
  obtain rfl:V=false:=by rw [hV];exact zA0 fun h=>(by rcases hg.1 h with h |h;cases h.2.2.2.1;exact absurd h.1 (by omega))
  clear hV hg q1 k1 k2
  go_enter Tryz.func61,Tryz.ntmps61
  go_wp2_with (first
   |(go_at_call 63;(with_reducible refine (S1.out _).mono ?_);rintro e w' ⟨rfl,rfl⟩)
   |(go_at_call 101;(with_reducible refine (SX.out _).mono ?_);rintro e w' ⟨rfl,rfl⟩)
   |(go_at_call 101;(with_reducible refine (SY.out _).mono ?_);rintro e w' ⟨rfl,rfl⟩)
   |(go_at_call 102;(with_reducible refine (SL.out _).mono ?_);rintro e w' ⟨rfl,rfl⟩)
   |(go_at_call 102;(with_reducible refine (SM.out _).mono ?_);rintro e w' ⟨rfl,rfl⟩))
  go_ret
  exact ⟨rfl,bel⟩
 case false=>
 by_cases q3:rs=0
 case neg=>
  have t3:(rs==0)=false:=by simpa using q3
  obtain rfl:V=false:=by rw [hV];exact zA0 fun h=>(by rcases hg.1 h with h |h;exact q3 h.2.2.2.2;exact absurd h.1 (by omega))
  clear hV hg q1 q3 k1 k2
  go_enter Tryz.func61,Tryz.ntmps61
  go_wp2_with (first
   |(go_at_call 63;(with_reducible refine (S1.out _).mono ?_);rintro e w' ⟨rfl,rfl⟩)
   |(go_at_call 101;(with_reducible refine (SX.out _).mono ?_);rintro e w' ⟨rfl,rfl⟩)
   |(go_at_call 101;(with_reducible refine (SY.out _).mono ?_);rintro e w' ⟨rfl,rfl⟩)
   |(go_at_call 102;(with_reducible refine (SL.out _).mono ?_);rintro e w' ⟨rfl,rfl⟩)
   |(go_at_call 102;(with_reducible refine (SM.out _).mono ?_);rintro e w' ⟨rfl,rfl⟩))
  go_ret
  exact ⟨rfl,bel⟩
 subst q3
 obtain rfl:V=true:=by rw [hV];exact zA2 (hg.2 (.inl ⟨rfl,q1,rfl,rfl,rfl⟩))
 clear hV hg q1 k1 k2
 go_enter Tryz.func61,Tryz.ntmps61
 go_wp2_with (first
  |(go_at_call 63;(with_reducible refine (S1.out _).mono ?_);rintro e w' ⟨rfl,rfl⟩)
  |(go_at_call 101;(with_reducible refine (SX.out _).mono ?_);rintro e w' ⟨rfl,rfl⟩)
  |(go_at_call 101;(with_reducible refine (SY.out _).mono ?_);rintro e w' ⟨rfl,rfl⟩)
  |(go_at_call 102;(with_reducible refine (SL.out _).mono ?_);rintro e w' ⟨rfl,rfl⟩)
  |(go_at_call 102;(with_reducible refine (SM.out _).mono ?_);rintro e w' ⟨rfl,rfl⟩))
 go_ret
 exact ⟨rfl,bel⟩
end Go.Proofs.YtchakniaoeodmaaGreatDoor

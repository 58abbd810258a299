/- sameLink of package network; the knots of a pump's curve. -/
import Derived.Test.YtchakniaoeodmaaGreatDoorNetU
namespace Go.Proofs.YtchakniaoeodmaaGreatDoor
open Go.RowKit
set_option linter.unusedVariables false
set_option linter.unusedSimpArgs false
def lkEq (nm fr tn:ByteArray) (kd ln up dn:Int) (sc:ByteArray) (wd ht:Int) (n:Nat) (X Y:Nat→Int) (nm' fr' tn':ByteArray) (kd' ln' up' dn':Int) (sc':ByteArray) (wd' ht':Int) (m:Nat) (X' Y':Nat→Int):Prop:=
 nm=nm'∧fr=fr'∧tn=tn'∧kd=kd'∧ln=ln'∧up=up'∧dn=dn'∧sc=sc'∧wd=wd'∧ht=ht'∧zS9 n X Y m X' Y'
set_option maxRecDepth 100000 in
set_option maxHeartbeats 4000000 in
theorem nsame (nm fr tn:ByteArray) (kd ln up dn:Int) (sc:ByteArray) (wd ht:Int) (A:Option Addr) (n c:Nat) (X Y:Nat→Int) (nm' fr' tn':ByteArray) (kd' ln' up' dn':Int) (sc':ByteArray) (wd' ht':Int) (B:Option Addr) (m d:Nat) (X' Y':Nat→Int) (w:World) (hA:TabIn w A n X Y) (hB:TabIn w B m X' Y'):
 Calls Tryz.prog 156 #[.agg #[.string nm,.string fr,.string tn,.int .i64 kd,.int .i64 ln,.int .i64 up,.int .i64 dn,.string sc,.int .i64 wd,.int .i64 ht,.slice A n c],.agg #[.string nm',.string fr',.string tn',.int .i64 kd',.int .i64 ln',.int .i64 up',.int .i64 dn',.string sc',.int .i64 wd',.int .i64 ht',.slice B m d]] w fun e w'=>e= .returned (.bool (boolOf (lkEq nm fr tn kd ln up dn sc wd ht n X Y nm' fr' tn' kd' ln' up' dn' sc' wd' ht' m X' Y')))∧Below w.heap.size w w':=by
 have HA:=LH hA
 have HB:=LH hB
 have SQ:=LH fun w hA hB=>tequal A B n m c d X Y X' Y' w hA hB
 obtain ⟨V,hV⟩:∃V,V=boolOf (lkEq nm fr tn kd ln up dn sc wd ht n X Y nm' fr' tn' kd' ln' up' dn' sc' wd' ht' m X' Y'):=⟨_,rfl⟩
 rw [←hV]
 clear hA hB
 by_cases g0:nm=nm'
 case neg=>
  obtain rfl:V=false:=by rw [hV];exact zA0 fun h=>g0 h.1
  have t0:¬nm.toList=nm'.toList:=fun h=>g0 (zC1 h)
  have u0:(nm.toList==nm'.toList)=false:=by simp [t0]
  clear hV g0
  go_enter Tryz.func156,Tryz.ntmps156
  go_wp2_with fail
  go_ret
  exact ⟨rfl,bel⟩
 subst g0
 by_cases g1:fr=fr'
 case neg=>
  obtain rfl:V=false:=by rw [hV];exact zA0 fun h=>g1 h.2.1
  have t1:¬fr.toList=fr'.toList:=fun h=>g1 (zC1 h)
  have u1:(fr.toList==fr'.toList)=false:=by simp [t1]
  clear hV g1
  go_enter Tryz.func156,Tryz.ntmps156
  go_wp2_with fail
  go_ret
  exact ⟨rfl,bel⟩
 subst g1
 by_cases g2:tn=tn'
 case neg=>
  obtain rfl:V=false:=by rw [hV];exact zA0 fun h=>g2 h.2.2.1
  have t2:¬tn.toList=tn'.toList:=fun h=>g2 (zC1 h)
  have u2:(tn.toList==tn'.toList)=false:=by simp [t2]
  clear hV g2
  go_enter Tryz.func156,Tryz.ntmps156
  go_wp2_with fail
  go_ret
  exact ⟨rfl,bel⟩
 subst g2
 by_cases g3:kd=kd'
 case neg=>
  obtain rfl:V=false:=by rw [hV];exact zA0 fun h=>g3 h.2.2.2.1
  have t3:(kd==kd')=false:=by simpa using g3
  clear hV g3
  go_enter Tryz.func156,Tryz.ntmps156
  go_wp2_with fail
  go_ret
  exact ⟨rfl,bel⟩
 subst g3
 by_cases g4:ln=ln'
 case neg=>
  obtain rfl:V=false:=by rw [hV];exact zA0 fun h=>g4 h.2.2.2.2.1
  have t4:(ln==ln')=false:=by simpa using g4
  clear hV g4
  go_enter Tryz.func156,Tryz.ntmps156
  go_wp2_with fail
  go_ret
  exact ⟨rfl,bel⟩
 subst g4
 by_cases g5:up=up'
 case neg=>
  obtain rfl:V=false:=by rw [hV];exact zA0 fun h=>g5 h.2.2.2.2.2.1
  have t5:(up==up')=false:=by simpa using g5
  clear hV g5
  go_enter Tryz.func156,Tryz.ntmps156
  go_wp2_with fail
  go_ret
  exact ⟨rfl,bel⟩
 subst g5
 by_cases g6:dn=dn'
 case neg=>
  obtain rfl:V=false:=by rw [hV];exact zA0 fun h=>g6 h.2.2.2.2.2.2.1
  have t6:(dn==dn')=false:=by simpa using g6
  clear hV g6
  go_enter Tryz.func156,Tryz.ntmps156
  go_wp2_with fail
  go_ret
  exact ⟨rfl,bel⟩
 subst g6
 by_cases g7:sc=sc'
 case neg=>
  obtain rfl:V=false:=by rw [hV];exact zA0 fun h=>g7 h.2.2.2.2.2.2.2.1
  have t7:¬sc.toList=sc'.toList:=fun h=>g7 (zC1 h)
  have u7:(sc.toList==sc'.toList)=false:=by simp [t7]
  clear hV g7
  go_enter Tryz.func156,Tryz.ntmps156
  go_wp2_with fail
  go_ret
  exact ⟨rfl,bel⟩
 subst g7
 by_cases g8:wd=wd'
 case neg=>
  obtain rfl:V=false:=by rw [hV];exact zA0 fun h=>g8 h.2.2.2.2.2.2.2.2.1
  have t8:(wd==wd')=false:=by simpa using g8
  clear hV g8
  go_enter Tryz.func156,Tryz.ntmps156
  go_wp2_with fail
  go_ret
  exact ⟨rfl,bel⟩
 subst g8
 by_cases g9:ht=ht'
 case neg=>
  obtain rfl:V=false:=by rw [hV];exact zA0 fun h=>g9 h.2.2.2.2.2.2.2.2.2.1
  have t9:(ht==ht')=false:=by simpa using g9
  clear hV g9
  go_enter Tryz.func156,Tryz.ntmps156
  go_wp2_with fail
  go_ret
  exact ⟨rfl,bel⟩
 subst g9
 have hq:boolOf (zS9 n X Y m X' Y')=V:=by
  rw [hV]
  refine zI3 ?_
  constructor
  ·intro h;exact ⟨rfl,rfl,rfl,rfl,rfl,rfl,rfl,rfl,rfl,rfl,zI0 h⟩
  ·intro h;exact zA2 h.2.2.2.2.2.2.2.2.2.2
 rw [hq] at SQ
 clear hV hq
 cases V
 all_goals
  go_enter Tryz.func156,Tryz.ntmps156
  go_wp2_with (first |(go_at_call 189;(with_reducible refine (SQ.out _ ?_ ?_).mono ?_);(focus (exact HA.out.below (nl _) bel));(focus (exact HB.out.below (nl _) bel));rintro e w1 ⟨rfl,hb1⟩;obtain ⟨hc1,hf1⟩:=zA8 hb1;have hz1:=hb1.size;(try simp at hz1);(try simp only [heap_drew,World.heap_drewN] at hz1 hc1 hf1);(try have hs1:=Nat.lt_of_succ_le hz1);(try have hs2:=Nat.lt_of_succ_lt hs1);(try have y0:w.heap.size<w1.heap.size:=by omega);(try have y1:w.heap.size+1<w1.heap.size:=by omega);(try have y2:w.heap.size+2<w1.heap.size:=by omega)))
  go_ret
  exact ⟨rfl,bel⟩
end Go.Proofs.YtchakniaoeodmaaGreatDoor

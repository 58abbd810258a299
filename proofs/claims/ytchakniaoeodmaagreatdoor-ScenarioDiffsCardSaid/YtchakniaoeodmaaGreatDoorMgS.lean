/- Merged texts of these proofs: SmN, Nrc, SmF, SmQ. -/
import Derived.Test.YtchakniaoeodmaaGreatDoorNetK
import Derived.Test.YtchakniaoeodmaaGreatDoorMgR
import Derived.BigRegion
namespace Go.Proofs.YtchakniaoeodmaaGreatDoor
open Go.RowKit
set_option linter.unusedVariables false
set_option linter.unusedSimpArgs false
set_option maxHeartbeats 2000000 in
theorem rtsame (A B:Option Addr) (n m c d:Nat) (X Y X' Y':Nat→Int) (w:World) (hA:TabIn w A n X Y) (hB:TabIn w B m X' Y'):
 Calls Tryz.prog 95 #[.slice A n c,.slice B m d] w fun e w'=>e= .returned (.bool (boolOf (zS9 n X Y m X' Y')))∧Below w.heap.size w w':=by
 have HA:=LH hA
 have HB:=LH hB
 have H2:=LH hA.1
 obtain ⟨f,hf⟩:∃f,Hid (f=boolOf (zS9 n X Y m X' Y')):=⟨_,rfl⟩
 rw [←hf.out]
 by_cases hnm:n=m
 case neg=>
  obtain rfl:f=false:=by rw [hf.out];exact zA0 fun h=>hnm h.1
  have t1:(n==m)=false:=by simpa using hnm
  have t2:(n !=m)=true:=by simpa using hnm
  have t3:((n:Int)==(m:Int))=false:=by rw [beq_eq_false_iff_ne];omega
  have t4:((n:Int)!=(m:Int))=true:=by simp;omega
  clear hA hB hnm hf
  go_enter Tryz.func95,Tryz.ntmps95
  go_wp2_with fail
  go_ret
  exact ⟨rfl,bR _ _⟩
 case pos=>
 subst hnm
 clear hA hB
 go_enter Tryz.func95,Tryz.ntmps95
 go_wp2_with fail
 go_loopw [5] (fun u wr=>∃i:Nat,Hid (i≤n)∧u= .int .i64 i∧Hid (∀j,j<i→X j=X' j∧Y j=Y' j)∧Hid (Below w.heap.size w wr)) (fun u _=>n - (RowKit.intOf u).toNat)
 case atStart=>exact ⟨0,Nat.zero_le _,rfl,fun j hj=>absurd hj (Nat.not_lt_zero _),bR _ _⟩
 case round=>
  obtain ⟨i,Hi,rfl,HG,HW⟩:=hrel
  by_cases hlt:i<n
  ·have T0:decide ((i:Int)<(n:Int))=true:=by simp<;> omega
   have T0':decide (i<n)=true:=dU hlt
   obtain ⟨i',hi'⟩:∃z,z=i+1:=⟨_,rfl⟩
   have x0:IntKind.i64.wrap ((i:Int)+1)=(i':Int):=by have:=H2.out;rw [IntKind.wrap_i64];omega
   have HI':Hid (i'≤n):=by show i'≤n;omega
   have HMS:Hid (n - (RowKit.intOf (Value.int .i64 (i':Int))).toNat<n - (RowKit.intOf (Value.int .i64 (i:Int))).toNat):=by show _<_;simp [RowKit.intOf];omega
   have k0:(0:Int)≤(i:Int):=by omega
   have k1:(i:Int)<(n:Int):=by omega
   obtain ⟨b1,o1,rfl,hb1,p0,p1⟩:=(HA.out.below (nl _) HW.out).at hlt
   obtain ⟨b2,o2,rfl,hb2,q0,q1⟩:=(HB.out.below (nl _) HW.out).at hlt
   have HLT:=LH hlt
   have HST:Hid (X i=X' i∧Y i=Y' i→∀j,j<i'→X j=X' j∧Y j=Y' j):=fun h j hj=>by
        rcases Nat.lt_or_ge j i with g |g
        ·exact HG.out j g
        ·have:j=i:=by omega
         rw [this];exact h
   have HNO:Hid (¬(X i=X' i∧Y i=Y' i)→f=false):=fun h=>by
        rw [hf.out];exact zA0 fun g=>h (g.2 i HLT.out)
   generalize X i=x at p0 HST HNO
   generalize Y i=y at p1 HST HNO
   generalize X' i=x' at q0 HST HNO
   generalize Y' i=y' at q1 HST HNO
   clear hi' hlt
   by_cases hx:x=x'
   ·subst hx
    by_cases hy:y=y'
    ·subst hy
     go_wp2_with fail
     go_quiet (fail)
     go_wp2_with fail
     go_roundw
     case rel=>exact ⟨i',HI',rfl,HST.out (by simp),zD0 HW.out _⟩
     case measure=>exact HMS.out
    ·have t1:(y==y')=false:=by simpa using hy
     have t2:(y !=y')=true:=by simpa using hy
     obtain rfl:f=false:=HNO.out (by simpa using hy)
     clear hy
     go_wp2_with fail
     go_quiet (fail)
     go_wp2_with fail
     go_ret
     exact ⟨rfl,zD0 HW.out _⟩
   ·have t1:(x==x')=false:=by simpa using hx
    have t2:(x !=x')=true:=by simpa using hx
    obtain rfl:f=false:=HNO.out fun h=>hx h.1
    clear hx
    go_wp2_with fail
    go_quiet (fail)
    go_wp2_with fail
    go_ret
    exact ⟨rfl,zD0 HW.out _⟩
  ·have hin:i=n:=by have:=Hi.out;omega
   have T0:decide ((i:Int)<(n:Int))=false:=by simp<;> omega
   have T0':decide (i<n)=false:=dF hlt
   obtain rfl:f=true:=by rw [hf.out];exact zA2 ⟨rfl,by rw [←hin];exact HG.out⟩
   clear hlt hin
   go_wp2_with fail
   go_ret
   exact ⟨rfl,HW.out⟩
def ndEq (nm:ByteArray) (kd ax ay iv gd:Int) (n:Nat) (X Y:Nat→Int) (pt:Bool) (rs:Int) (nm':ByteArray) (kd' ax' ay' iv' gd':Int) (m:Nat) (X' Y':Nat→Int) (pt':Bool) (rs':Int):Prop:=
 nm=nm'∧kd=kd'∧ax=ax'∧ay=ay'∧iv=iv'∧gd=gd'∧pt=pt'∧rs=rs'∧zS9 n X Y m X' Y'
set_option maxRecDepth 100000 in
set_option maxHeartbeats 4000000 in
theorem nsameN (nm:ByteArray) (kd:Int) (ax:Int) (ay:Int) (iv:Int) (gd:Int) (pt:Bool) (rs:Int) (nm':ByteArray) (kd':Int) (ax':Int) (ay':Int) (iv':Int) (gd':Int) (pt':Bool) (rs':Int) (A:Option Addr) (n c:Nat) (X Y:Nat→Int) (B:Option Addr) (m d:Nat) (X' Y':Nat→Int) (w:World) (hA:TabIn w A n X Y) (hB:TabIn w B m X' Y'):
 Calls Tryz.prog 172 #[.agg #[.string nm,.int .i64 kd,.int .i64 ax,.int .i64 ay,.int .i64 iv,.int .i64 gd,.slice A n c,.bool pt,.int .i64 rs],.agg #[.string nm',.int .i64 kd',.int .i64 ax',.int .i64 ay',.int .i64 iv',.int .i64 gd',.slice B m d,.bool pt',.int .i64 rs']] w fun e w'=>e= .returned (.bool (boolOf (ndEq nm kd ax ay iv gd n X Y pt rs nm' kd' ax' ay' iv' gd' m X' Y' pt' rs')))∧Below w.heap.size w w':=by
 have HA:=LH hA
 have HB:=LH hB
 have SQ:=LH fun w hA hB=>tequal A B n m c d X Y X' Y' w hA hB
 obtain ⟨V,hV⟩:∃V,V=boolOf (ndEq nm kd ax ay iv gd n X Y pt rs nm' kd' ax' ay' iv' gd' m X' Y' pt' rs'):=⟨_,rfl⟩
 rw [←hV]
 clear hA hB
 by_cases g0:nm=nm'
 case neg=>
  obtain rfl:V=false:=by rw [hV];exact zA0 fun h=>g0 h.1
  have t0:¬nm.toList=nm'.toList:=fun h=>g0 (zC1 h)
  have u0:(nm.toList==nm'.toList)=false:=by simp [t0]
  clear hV g0
  go_enter Tryz.func172,Tryz.ntmps172
  go_wp2_with fail
  go_ret
  exact ⟨rfl,bel⟩
 subst g0
 by_cases g1:kd=kd'
 case neg=>
  obtain rfl:V=false:=by rw [hV];exact zA0 fun h=>g1 h.2.1
  have t1:(kd==kd')=false:=by simpa using g1
  have u1:(kd !=kd')=true:=by simpa using g1
  clear hV g1
  go_enter Tryz.func172,Tryz.ntmps172
  go_wp2_with fail
  go_ret
  exact ⟨rfl,bel⟩
 subst g1
 by_cases g2:ax=ax'
 case neg=>
  obtain rfl:V=false:=by rw [hV];exact zA0 fun h=>g2 h.2.2.1
  have t2:(ax==ax')=false:=by simpa using g2
  have u2:(ax !=ax')=true:=by simpa using g2
  clear hV g2
  go_enter Tryz.func172,Tryz.ntmps172
  go_wp2_with fail
  go_ret
  exact ⟨rfl,bel⟩
 subst g2
 by_cases g3:ay=ay'
 case neg=>
  obtain rfl:V=false:=by rw [hV];exact zA0 fun h=>g3 h.2.2.2.1
  have t3:(ay==ay')=false:=by simpa using g3
  have u3:(ay !=ay')=true:=by simpa using g3
  clear hV g3
  go_enter Tryz.func172,Tryz.ntmps172
  go_wp2_with fail
  go_ret
  exact ⟨rfl,bel⟩
 subst g3
 by_cases g4:iv=iv'
 case neg=>
  obtain rfl:V=false:=by rw [hV];exact zA0 fun h=>g4 h.2.2.2.2.1
  have t4:(iv==iv')=false:=by simpa using g4
  have u4:(iv !=iv')=true:=by simpa using g4
  clear hV g4
  go_enter Tryz.func172,Tryz.ntmps172
  go_wp2_with fail
  go_ret
  exact ⟨rfl,bel⟩
 subst g4
 by_cases g5:gd=gd'
 case neg=>
  obtain rfl:V=false:=by rw [hV];exact zA0 fun h=>g5 h.2.2.2.2.2.1
  have t5:(gd==gd')=false:=by simpa using g5
  have u5:(gd !=gd')=true:=by simpa using g5
  clear hV g5
  go_enter Tryz.func172,Tryz.ntmps172
  go_wp2_with fail
  go_ret
  exact ⟨rfl,bel⟩
 subst g5
 by_cases g6:pt=pt'
 case neg=>
  obtain rfl:V=false:=by rw [hV];exact zA0 fun h=>g6 h.2.2.2.2.2.2.1
  clear hV
  cases pt<;> cases pt'<;> first |(exact absurd rfl g6)|skip
  all_goals
   clear g6
   go_enter Tryz.func172,Tryz.ntmps172
   go_wp2_with fail
   go_ret
   exact ⟨rfl,bel⟩
 subst g6
 by_cases g7:rs=rs'
 case neg=>
  obtain rfl:V=false:=by rw [hV];exact zA0 fun h=>g7 h.2.2.2.2.2.2.2.1
  have t7:(rs==rs')=false:=by simpa using g7
  have u7:(rs !=rs')=true:=by simpa using g7
  clear hV g7
  go_enter Tryz.func172,Tryz.ntmps172
  go_wp2_with fail
  go_ret
  exact ⟨rfl,bel⟩
 subst g7
 cases hq:boolOf (zS9 n X Y m X' Y') with
 |false=>
  obtain rfl:V=false:=by rw [hV];exact zA0 fun h=>by have:=zA2 (h.2.2.2.2.2.2.2.2);rw [hq] at this;cases this
  rw [hq] at SQ
  clear hV hq
  go_enter Tryz.func172,Tryz.ntmps172
  go_wp2_with (first |(go_at_call 189;(with_reducible refine (SQ.out _ ?_ ?_).mono ?_);(focus (exact HA.out.below (nl _) bel));(focus (exact HB.out.below (nl _) bel));rintro e w1 ⟨rfl,hb1⟩;obtain ⟨hc1,hf1⟩:=zA8 hb1;have hz1:=hb1.size;(try simp at hz1);(try simp only [heap_drew,World.heap_drewN] at hz1 hc1 hf1);(try have hs1:=Nat.lt_of_succ_le hz1);(try have hs2:=Nat.lt_of_succ_lt hs1);(try have y0:w.heap.size<w1.heap.size:=by omega);(try have y1:w.heap.size+1<w1.heap.size:=by omega);(try have y2:w.heap.size+2<w1.heap.size:=by omega)))
  go_ret
  exact ⟨rfl,bel⟩
 |true=>
 have hT:=zI0 hq
 rw [hq] at SQ
 clear hq
 obtain rfl:V=true:=by rw [hV];exact zA2 ⟨rfl,rfl,rfl,rfl,rfl,rfl,rfl,rfl,hT⟩
 clear hV hT
 go_enter Tryz.func172,Tryz.ntmps172
 go_wp2_with (first |(go_at_call 189;(with_reducible refine (SQ.out _ ?_ ?_).mono ?_);(focus (exact HA.out.below (nl _) bel));(focus (exact HB.out.below (nl _) bel));rintro e w1 ⟨rfl,hb1⟩;obtain ⟨hc1,hf1⟩:=zA8 hb1;have hz1:=hb1.size;(try simp at hz1);(try simp only [heap_drew,World.heap_drewN] at hz1 hc1 hf1);(try have hs1:=Nat.lt_of_succ_le hz1);(try have hs2:=Nat.lt_of_succ_lt hs1);(try have y0:w.heap.size<w1.heap.size:=by omega);(try have y1:w.heap.size+1<w1.heap.size:=by omega);(try have y2:w.heap.size+2<w1.heap.size:=by omega)))
 go_ret
 exact ⟨rfl,bel⟩
set_option maxRecDepth 100000 in
set_option maxHeartbeats 4000000 in
theorem rsameN (nm:ByteArray) (kd:Int) (ax:Int) (ay:Int) (iv:Int) (gd:Int) (pt:Bool) (rs:Int) (nm':ByteArray) (kd':Int) (ax':Int) (ay':Int) (iv':Int) (gd':Int) (pt':Bool) (rs':Int) (A:Option Addr) (n c:Nat) (X Y:Nat→Int) (B:Option Addr) (m d:Nat) (X' Y':Nat→Int) (w:World) (hA:TabIn w A n X Y) (hB:TabIn w B m X' Y'):
 Calls Tryz.prog 49 #[.agg #[.string nm,.int .i64 kd,.int .i64 ax,.int .i64 ay,.int .i64 iv,.int .i64 gd,.slice A n c,.bool pt,.int .i64 rs],.agg #[.string nm',.int .i64 kd',.int .i64 ax',.int .i64 ay',.int .i64 iv',.int .i64 gd',.slice B m d,.bool pt',.int .i64 rs']] w fun e w'=>e= .returned (.bool (boolOf (ndEq nm kd ax ay iv gd n X Y pt rs nm' kd' ax' ay' iv' gd' m X' Y' pt' rs')))∧Below w.heap.size w w':=by
 have HA:=LH hA
 have HB:=LH hB
 have SQ:=LH fun w hA hB=>rtsame A B n m c d X Y X' Y' w hA hB
 obtain ⟨V,hV⟩:∃V,V=boolOf (ndEq nm kd ax ay iv gd n X Y pt rs nm' kd' ax' ay' iv' gd' m X' Y' pt' rs'):=⟨_,rfl⟩
 rw [←hV]
 clear hA hB
 by_cases g0:nm=nm'
 case neg=>
  obtain rfl:V=false:=by rw [hV];exact zA0 fun h=>g0 h.1
  have t0:¬nm.toList=nm'.toList:=fun h=>g0 (zC1 h)
  have u0:(nm.toList==nm'.toList)=false:=by simp [t0]
  clear hV g0
  go_enter Tryz.func49,Tryz.ntmps49
  go_wp2_with fail
  go_ret
  exact ⟨rfl,bel⟩
 subst g0
 by_cases g1:kd=kd'
 case neg=>
  obtain rfl:V=false:=by rw [hV];exact zA0 fun h=>g1 h.2.1
  have t1:(kd==kd')=false:=by simpa using g1
  have u1:(kd !=kd')=true:=by simpa using g1
  clear hV g1
  go_enter Tryz.func49,Tryz.ntmps49
  go_wp2_with fail
  go_ret
  exact ⟨rfl,bel⟩
 subst g1
 by_cases g2:ax=ax'
 case neg=>
  obtain rfl:V=false:=by rw [hV];exact zA0 fun h=>g2 h.2.2.1
  have t2:(ax==ax')=false:=by simpa using g2
  have u2:(ax !=ax')=true:=by simpa using g2
  clear hV g2
  go_enter Tryz.func49,Tryz.ntmps49
  go_wp2_with fail
  go_ret
  exact ⟨rfl,bel⟩
 subst g2
 by_cases g3:ay=ay'
 case neg=>
  obtain rfl:V=false:=by rw [hV];exact zA0 fun h=>g3 h.2.2.2.1
  have t3:(ay==ay')=false:=by simpa using g3
  have u3:(ay !=ay')=true:=by simpa using g3
  clear hV g3
  go_enter Tryz.func49,Tryz.ntmps49
  go_wp2_with fail
  go_ret
  exact ⟨rfl,bel⟩
 subst g3
 by_cases g4:iv=iv'
 case neg=>
  obtain rfl:V=false:=by rw [hV];exact zA0 fun h=>g4 h.2.2.2.2.1
  have t4:(iv==iv')=false:=by simpa using g4
  have u4:(iv !=iv')=true:=by simpa using g4
  clear hV g4
  go_enter Tryz.func49,Tryz.ntmps49
  go_wp2_with fail
  go_ret
  exact ⟨rfl,bel⟩
 subst g4
 by_cases g5:gd=gd'
 case neg=>
  obtain rfl:V=false:=by rw [hV];exact zA0 fun h=>g5 h.2.2.2.2.2.1
  have t5:(gd==gd')=false:=by simpa using g5
  have u5:(gd !=gd')=true:=by simpa using g5
  clear hV g5
  go_enter Tryz.func49,Tryz.ntmps49
  go_wp2_with fail
  go_ret
  exact ⟨rfl,bel⟩
 subst g5
 cases hq:boolOf (zS9 n X Y m X' Y') with
 |false=>
  obtain rfl:V=false:=by rw [hV];exact zA0 fun h=>by have:=zA2 (h.2.2.2.2.2.2.2.2);rw [hq] at this;cases this
  rw [hq] at SQ
  clear hV hq
  go_enter Tryz.func49,Tryz.ntmps49
  go_wp2_with (first |(go_at_call 95;(with_reducible refine (SQ.out _ ?_ ?_).mono ?_);(focus (exact HA.out.below (nl _) bel));(focus (exact HB.out.below (nl _) bel));rintro e w1 ⟨rfl,hb1⟩;obtain ⟨hc1,hf1⟩:=zA8 hb1;have hz1:=hb1.size;(try simp at hz1);(try simp only [heap_drew,World.heap_drewN] at hz1 hc1 hf1);(try have hs1:=Nat.lt_of_succ_le hz1);(try have hs2:=Nat.lt_of_succ_lt hs1);(try have y0:w.heap.size<w1.heap.size:=by omega);(try have y1:w.heap.size+1<w1.heap.size:=by omega);(try have y2:w.heap.size+2<w1.heap.size:=by omega)))
  go_ret
  exact ⟨rfl,bel⟩
 |true=>
 have hT:=zI0 hq
 rw [hq] at SQ
 clear hq
 by_cases g6:pt=pt'
 case neg=>
  obtain rfl:V=false:=by rw [hV];exact zA0 fun h=>g6 h.2.2.2.2.2.2.1
  clear hV
  cases pt<;> cases pt'<;> first |(exact absurd rfl g6)|skip
  all_goals
   clear g6
   go_enter Tryz.func49,Tryz.ntmps49
   go_wp2_with (first |(go_at_call 95;(with_reducible refine (SQ.out _ ?_ ?_).mono ?_);(focus (exact HA.out.below (nl _) bel));(focus (exact HB.out.below (nl _) bel));rintro e w1 ⟨rfl,hb1⟩;obtain ⟨hc1,hf1⟩:=zA8 hb1;have hz1:=hb1.size;(try simp at hz1);(try simp only [heap_drew,World.heap_drewN] at hz1 hc1 hf1);(try have hs1:=Nat.lt_of_succ_le hz1);(try have hs2:=Nat.lt_of_succ_lt hs1);(try have y0:w.heap.size<w1.heap.size:=by omega);(try have y1:w.heap.size+1<w1.heap.size:=by omega);(try have y2:w.heap.size+2<w1.heap.size:=by omega)))
   go_ret
   exact ⟨rfl,bel⟩
 subst g6
 by_cases g7:rs=rs'
 case neg=>
  obtain rfl:V=false:=by rw [hV];exact zA0 fun h=>g7 h.2.2.2.2.2.2.2.1
  have t7:(rs==rs')=false:=by simpa using g7
  have u7:(rs !=rs')=true:=by simpa using g7
  clear hV g7
  go_enter Tryz.func49,Tryz.ntmps49
  go_wp2_with (first |(go_at_call 95;(with_reducible refine (SQ.out _ ?_ ?_).mono ?_);(focus (exact HA.out.below (nl _) bel));(focus (exact HB.out.below (nl _) bel));rintro e w1 ⟨rfl,hb1⟩;obtain ⟨hc1,hf1⟩:=zA8 hb1;have hz1:=hb1.size;(try simp at hz1);(try simp only [heap_drew,World.heap_drewN] at hz1 hc1 hf1);(try have hs1:=Nat.lt_of_succ_le hz1);(try have hs2:=Nat.lt_of_succ_lt hs1);(try have y0:w.heap.size<w1.heap.size:=by omega);(try have y1:w.heap.size+1<w1.heap.size:=by omega);(try have y2:w.heap.size+2<w1.heap.size:=by omega)))
  go_ret
  exact ⟨rfl,bel⟩
 subst g7
 obtain rfl:V=true:=by rw [hV];exact zA2 ⟨rfl,rfl,rfl,rfl,rfl,rfl,rfl,rfl,hT⟩
 clear hV hT
 go_enter Tryz.func49,Tryz.ntmps49
 go_wp2_with (first |(go_at_call 95;(with_reducible refine (SQ.out _ ?_ ?_).mono ?_);(focus (exact HA.out.below (nl _) bel));(focus (exact HB.out.below (nl _) bel));rintro e w1 ⟨rfl,hb1⟩;obtain ⟨hc1,hf1⟩:=zA8 hb1;have hz1:=hb1.size;(try simp at hz1);(try simp only [heap_drew,World.heap_drewN] at hz1 hc1 hf1);(try have hs1:=Nat.lt_of_succ_le hz1);(try have hs2:=Nat.lt_of_succ_lt hs1);(try have y0:w.heap.size<w1.heap.size:=by omega);(try have y1:w.heap.size+1<w1.heap.size:=by omega);(try have y2:w.heap.size+2<w1.heap.size:=by omega)))
 go_ret
 exact ⟨rfl,bel⟩
set_option maxRecDepth 100000 in
set_option maxHeartbeats 4000000 in
theorem rsameL (nm:ByteArray) (fr:ByteArray) (tn:ByteArray) (kd:Int) (ln:Int) (up:Int) (dn:Int) (sc:ByteArray) (wd:Int) (ht:Int) (nm':ByteArray) (fr':ByteArray) (tn':ByteArray) (kd':Int) (ln':Int) (up':Int) (dn':Int) (sc':ByteArray) (wd':Int) (ht':Int) (A:Option Addr) (n c:Nat) (X Y:Nat→Int) (B:Option Addr) (m d:Nat) (X' Y':Nat→Int) (w:World) (hA:TabIn w A n X Y) (hB:TabIn w B m X' Y'):
 Calls Tryz.prog 50 #[.agg #[.string nm,.string fr,.string tn,.int .i64 kd,.int .i64 ln,.int .i64 up,.int .i64 dn,.string sc,.int .i64 wd,.int .i64 ht,.slice A n c],.agg #[.string nm',.string fr',.string tn',.int .i64 kd',.int .i64 ln',.int .i64 up',.int .i64 dn',.string sc',.int .i64 wd',.int .i64 ht',.slice B m d]] w fun e w'=>e= .returned (.bool (boolOf (lkEq nm fr tn kd ln up dn sc wd ht n X Y nm' fr' tn' kd' ln' up' dn' sc' wd' ht' m X' Y')))∧Below w.heap.size w w':=by
 have HA:=LH hA
 have HB:=LH hB
 have SQ:=LH fun w hA hB=>rtsame A B n m c d X Y X' Y' w hA hB
 obtain ⟨V,hV⟩:∃V,V=boolOf (lkEq nm fr tn kd ln up dn sc wd ht n X Y nm' fr' tn' kd' ln' up' dn' sc' wd' ht' m X' Y'):=⟨_,rfl⟩
 rw [←hV]
 clear hA hB
 by_cases g0:nm=nm'
 case neg=>
  obtain rfl:V=false:=by rw [hV];exact zA0 fun h=>g0 h.1
  have t0:¬nm.toList=nm'.toList:=fun h=>g0 (zC1 h)
  have u0:(nm.toList==nm'.toList)=false:=by simp [t0]
  clear hV g0
  go_enter Tryz.func50,Tryz.ntmps50
  go_wp2_with fail
  go_ret
  exact ⟨rfl,bel⟩
 subst g0
 by_cases g1:fr=fr'
 case neg=>
  obtain rfl:V=false:=by rw [hV];exact zA0 fun h=>g1 h.2.1
  have t1:¬fr.toList=fr'.toList:=fun h=>g1 (zC1 h)
  have u1:(fr.toList==fr'.toList)=false:=by simp [t1]
  clear hV g1
  go_enter Tryz.func50,Tryz.ntmps50
  go_wp2_with fail
  go_ret
  exact ⟨rfl,bel⟩
 subst g1
 by_cases g2:tn=tn'
 case neg=>
  obtain rfl:V=false:=by rw [hV];exact zA0 fun h=>g2 h.2.2.1
  have t2:¬tn.toList=tn'.toList:=fun h=>g2 (zC1 h)
  have u2:(tn.toList==tn'.toList)=false:=by simp [t2]
  clear hV g2
  go_enter Tryz.func50,Tryz.ntmps50
  go_wp2_with fail
  go_ret
  exact ⟨rfl,bel⟩
 subst g2
 by_cases g3:kd=kd'
 case neg=>
  obtain rfl:V=false:=by rw [hV];exact zA0 fun h=>g3 h.2.2.2.1
  have t3:(kd==kd')=false:=by simpa using g3
  have u3:(kd !=kd')=true:=by simpa using g3
  clear hV g3
  go_enter Tryz.func50,Tryz.ntmps50
  go_wp2_with fail
  go_ret
  exact ⟨rfl,bel⟩
 subst g3
 by_cases g4:ln=ln'
 case neg=>
  obtain rfl:V=false:=by rw [hV];exact zA0 fun h=>g4 h.2.2.2.2.1
  have t4:(ln==ln')=false:=by simpa using g4
  have u4:(ln !=ln')=true:=by simpa using g4
  clear hV g4
  go_enter Tryz.func50,Tryz.ntmps50
  go_wp2_with fail
  go_ret
  exact ⟨rfl,bel⟩
 subst g4
 by_cases g5:up=up'
 case neg=>
  obtain rfl:V=false:=by rw [hV];exact zA0 fun h=>g5 h.2.2.2.2.2.1
  have t5:(up==up')=false:=by simpa using g5
  have u5:(up !=up')=true:=by simpa using g5
  clear hV g5
  go_enter Tryz.func50,Tryz.ntmps50
  go_wp2_with fail
  go_ret
  exact ⟨rfl,bel⟩
 subst g5
 by_cases g6:dn=dn'
 case neg=>
  obtain rfl:V=false:=by rw [hV];exact zA0 fun h=>g6 h.2.2.2.2.2.2.1
  have t6:(dn==dn')=false:=by simpa using g6
  have u6:(dn !=dn')=true:=by simpa using g6
  clear hV g6
  go_enter Tryz.func50,Tryz.ntmps50
  go_wp2_with fail
  go_ret
  exact ⟨rfl,bel⟩
 subst g6
 by_cases g7:sc=sc'
 case neg=>
  obtain rfl:V=false:=by rw [hV];exact zA0 fun h=>g7 h.2.2.2.2.2.2.2.1
  have t7:¬sc.toList=sc'.toList:=fun h=>g7 (zC1 h)
  have u7:(sc.toList==sc'.toList)=false:=by simp [t7]
  clear hV g7
  go_enter Tryz.func50,Tryz.ntmps50
  go_wp2_with fail
  go_ret
  exact ⟨rfl,bel⟩
 subst g7
 by_cases g8:wd=wd'
 case neg=>
  obtain rfl:V=false:=by rw [hV];exact zA0 fun h=>g8 h.2.2.2.2.2.2.2.2.1
  have t8:(wd==wd')=false:=by simpa using g8
  have u8:(wd !=wd')=true:=by simpa using g8
  clear hV g8
  go_enter Tryz.func50,Tryz.ntmps50
  go_wp2_with fail
  go_ret
  exact ⟨rfl,bel⟩
 subst g8
 by_cases g9:ht=ht'
 case neg=>
  obtain rfl:V=false:=by rw [hV];exact zA0 fun h=>g9 h.2.2.2.2.2.2.2.2.2.1
  have t9:(ht==ht')=false:=by simpa using g9
  have u9:(ht !=ht')=true:=by simpa using g9
  clear hV g9
  go_enter Tryz.func50,Tryz.ntmps50
  go_wp2_with fail
  go_ret
  exact ⟨rfl,bel⟩
 subst g9
 cases hq:boolOf (zS9 n X Y m X' Y') with
 |false=>
  obtain rfl:V=false:=by rw [hV];exact zA0 fun h=>by have:=zA2 (h.2.2.2.2.2.2.2.2.2.2);rw [hq] at this;cases this
  rw [hq] at SQ
  clear hV hq
  go_enter Tryz.func50,Tryz.ntmps50
  go_wp2_with (first |(go_at_call 95;(with_reducible refine (SQ.out _ ?_ ?_).mono ?_);(focus (exact HA.out.below (nl _) bel));(focus (exact HB.out.below (nl _) bel));rintro e w1 ⟨rfl,hb1⟩;obtain ⟨hc1,hf1⟩:=zA8 hb1;have hz1:=hb1.size;(try simp at hz1);(try simp only [heap_drew,World.heap_drewN] at hz1 hc1 hf1);(try have hs1:=Nat.lt_of_succ_le hz1);(try have hs2:=Nat.lt_of_succ_lt hs1);(try have y0:w.heap.size<w1.heap.size:=by omega);(try have y1:w.heap.size+1<w1.heap.size:=by omega);(try have y2:w.heap.size+2<w1.heap.size:=by omega)))
  go_ret
  exact ⟨rfl,bel⟩
 |true=>
 have hT:=zI0 hq
 rw [hq] at SQ
 clear hq
 obtain rfl:V=true:=by rw [hV];exact zA2 ⟨rfl,rfl,rfl,rfl,rfl,rfl,rfl,rfl,rfl,rfl,hT⟩
 clear hV hT
 go_enter Tryz.func50,Tryz.ntmps50
 go_wp2_with (first |(go_at_call 95;(with_reducible refine (SQ.out _ ?_ ?_).mono ?_);(focus (exact HA.out.below (nl _) bel));(focus (exact HB.out.below (nl _) bel));rintro e w1 ⟨rfl,hb1⟩;obtain ⟨hc1,hf1⟩:=zA8 hb1;have hz1:=hb1.size;(try simp at hz1);(try simp only [heap_drew,World.heap_drewN] at hz1 hc1 hf1);(try have hs1:=Nat.lt_of_succ_le hz1);(try have hs2:=Nat.lt_of_succ_lt hs1);(try have y0:w.heap.size<w1.heap.size:=by omega);(try have y1:w.heap.size+1<w1.heap.size:=by omega);(try have y2:w.heap.size+2<w1.heap.size:=by omega)))
 go_ret
 exact ⟨rfl,bel⟩
def zA7 (D:Nds) (k:Nat):Ndr:=⟨D.Nm k,D.Kd k,D.Ax k,D.Ay k,D.Iv k,D.Gd k,edl (D.SN k) (D.SX k) (D.SY k),D.Pt k,D.Rs k⟩
def zA5 (K:Lks) (k:Nat):Lkr:=⟨K.Nm k,K.Fr k,K.To k,K.Kd k,K.Ln k,K.Up k,K.Dn k,K.Sc k,K.Wd k,K.Ht k,edl (K.CN k) (K.CX k) (K.CY k)⟩
def recN (D:Nds) (n:Nat):List Ndr:=(List.range n).map (zA7 D)
def recL (K:Lks) (m:Nat):List Lkr:=(List.range m).map (zA5 K)
theorem zA3 (D:Nds) (n:Nat):(recN D n).length=n:=by simp [recN]
theorem zA4 (K:Lks) (m:Nat):(recL K m).length=m:=by simp [recL]
theorem recN_succ (D:Nds) (n:Nat):recN D (n+1)=recN D n++[zA7 D n]:=by unfold recN;rw [List.range_succ,List.map_append];rfl
theorem recL_succ (K:Lks) (m:Nat):recL K (m+1)=recL K m++[zA5 K m]:=by unfold recL;rw [List.range_succ,List.map_append];rfl
theorem zO1 {D:Nds} {n k:Nat} (h:k<n):(recN D n).getD k zNd=zA7 D k:=by simp [recN,List.getD,h]
theorem zP8 {K:Lks} {m k:Nat} (h:k<m):(recL K m).getD k zLk=zA5 K k:=by simp [recL,List.getD,h]
theorem edl_eq {n m:Nat} {X Y X' Y':Nat→Int}:edl n X Y=edl m X' Y'↔zS9 n X Y m X' Y':=by
 constructor
 ·intro h
  have hl:n=m:=by have:=congrArg List.length h;rwa [zD6,zD6] at this
  refine ⟨hl,fun k hk=>?_⟩
  have h1:=zV3 (X:=X) (Y:=Y) hk
  have h2:=zV3 (X:=X') (Y:=Y') (show k<m by omega)
  rw [h] at h1
  exact ⟨h1.1.symm.trans h2.1,h1.2.symm.trans h2.2⟩
 ·rintro ⟨rfl,h⟩
  unfold edl
  refine List.map_congr_left fun k hk=>?_
  obtain ⟨a,b⟩:=h k (List.mem_range.1 hk)
  rw [a,b]
theorem edl_self (T:List (Int×Int)):edl T.length (kX T) (kY T)=T:=by
 refine zX5 (by rw [zD6]) fun k hk=>?_
 rw [zD6] at hk
 exact zV3 hk
theorem zO8 {D D':Nds} {i j:Nat}:zA7 D i=zA7 D' j↔ndEq (D.Nm i) (D.Kd i) (D.Ax i) (D.Ay i) (D.Iv i) (D.Gd i) (D.SN i) (D.SX i) (D.SY i) (D.Pt i) (D.Rs i) (D'.Nm j) (D'.Kd j) (D'.Ax j) (D'.Ay j) (D'.Iv j) (D'.Gd j) (D'.SN j) (D'.SX j) (D'.SY j) (D'.Pt j) (D'.Rs j):=by
 unfold zA7 ndEq
 rw [Ndr.mk.injEq,edl_eq]
 constructor
 ·rintro ⟨a,b,c,d,e,f,g,h,i⟩;exact ⟨a,b,c,d,e,f,h,i,g⟩
 ·rintro ⟨a,b,c,d,e,f,h,i,g⟩;exact ⟨a,b,c,d,e,f,g,h,i⟩
theorem zO9 {K K':Lks} {i j:Nat}:zA5 K i=zA5 K' j↔lkEq (K.Nm i) (K.Fr i) (K.To i) (K.Kd i) (K.Ln i) (K.Up i) (K.Dn i) (K.Sc i) (K.Wd i) (K.Ht i) (K.CN i) (K.CX i) (K.CY i) (K'.Nm j) (K'.Fr j) (K'.To j) (K'.Kd j) (K'.Ln j) (K'.Up j) (K'.Dn j) (K'.Sc j) (K'.Wd j) (K'.Ht j) (K'.CN j) (K'.CX j) (K'.CY j):=by
 unfold zA5 lkEq
 rw [Lkr.mk.injEq,edl_eq]
theorem zO0 {D D':Nds} {n n':Nat}:recN D n=recN D' n'↔n=n'∧∀i,i<n→zA7 D i=zA7 D' i:=by
 constructor
 ·intro h
  have hl:n=n':=by have:=congrArg List.length h;rwa [zA3,zA3] at this
  refine ⟨hl,fun i hi=>?_⟩
  rw [←zO1 (D:=D) hi,h,zO1 (by omega)]
 ·rintro ⟨rfl,h⟩
  unfold recN
  exact List.map_congr_left fun k hk=>h k (List.mem_range.1 hk)
theorem zO2 {K K':Lks} {m m':Nat}:recL K m=recL K' m'↔m=m'∧∀i,i<m→zA5 K i=zA5 K' i:=by
 constructor
 ·intro h
  have hl:m=m':=by have:=congrArg List.length h;rwa [zA4,zA4] at this
  refine ⟨hl,fun i hi=>?_⟩
  rw [←zP8 (K:=K) hi,h,zP8 (by omega)]
 ·rintro ⟨rfl,h⟩
  unfold recL
  exact List.map_congr_left fun k hk=>h k (List.mem_range.1 hk)
theorem ndsR_of {N:List Ndr} {SA:Nat→Option Addr} {SC:Nat→Nat} {k:Nat}:zA7 (ndsR N SA SC) k=N.getD k zNd:=by
 unfold zA7 ndsR
 simp only [edl_self]
theorem lksR_of {L:List Lkr} {CA:Nat→Option Addr} {CC:Nat→Nat} {k:Nat}:zA5 (lksR L CA CC) k=L.getD k zLk:=by
 unfold zA5 lksR
 simp only [edl_self]
theorem zX4 {α:Type} (L:List α) (z:α):(List.range L.length).map (fun k=>L.getD k z)=L:=by
 apply List.ext_getElem (by simp)
 intro i h1 h2
 simp [List.getD,h2]
theorem ndsR_rec (N:List Ndr) (SA:Nat→Option Addr) (SC:Nat→Nat):recN (ndsR N SA SC) N.length=N:=by
 unfold recN
 rw [show zA7 (ndsR N SA SC)=fun k=>N.getD k zNd from funext fun k=>ndsR_of]
 exact zX4 N zNd
theorem lksR_rec (L:List Lkr) (CA:Nat→Option Addr) (CC:Nat→Nat):recL (lksR L CA CC) L.length=L:=by
 unfold recL
 rw [show zA5 (lksR L CA CC)=fun k=>L.getD k zLk from funext fun k=>lksR_of]
 exact zX4 L zLk
theorem zS3 (M:List Ndm):recN (ndsM M) M.length=ndx M:=by
 have:=ndsR_rec (ndx M) (fun k=>(M.getD k ⟨zNd,none,0⟩).A) (fun k=>(M.getD k ⟨zNd,none,0⟩).c)
 rwa [show (ndx M).length=M.length by simp [ndx]] at this
theorem zS5 (M:List Lkm):recL (lksM M) M.length=lkx M:=by
 have:=lksR_rec (lkx M) (fun k=>(M.getD k ⟨zLk,none,0⟩).A) (fun k=>(M.getD k ⟨zLk,none,0⟩).c)
 rwa [show (lkx M).length=M.length by simp [lkx]] at this
def netS (D:Nds) (n:Nat) (K:Lks) (m:Nat) (D':Nds) (n':Nat) (K':Lks) (m':Nat):Prop:=recN D n=recN D' n'∧recL K m=recL K' m'
theorem fnd_eq {X X':Nat→ByteArray} {n:Nat} (h:∀i,i<n→X i=X' i) (s:ByteArray):fnd X n s=fnd X' n s:=by
 obtain ⟨k,hk,e⟩:=zG7 X' n s
 rw [e]
 refine fnd_at ⟨hk.1,fun j hj=>?_,fun hkn=>?_⟩
 ·have:=hk.2.1 j hj
  have hkl:=hk.1
  show decide (X j=s)=false
  rw [h j (by omega)];exact this
 ·have:=hk.2.2 hkn
  show decide (X k=s)=true
  rw [h k hkn];exact this
theorem tabOK_eq {n:Nat} {X Y X' Y':Nat→Int} (h:∀k,k<n→X k=X' k∧Y k=Y' k) (ht:TabOK n X Y):TabOK n X' Y':=by
 refine ⟨ht.1,ht.2.1,fun k hk=>?_⟩
 have:=ht.2.2 k hk
 unfold zJ8 at*
 rw [(h k hk).1,(h k hk).2] at this
 refine ⟨this.1,this.2.1,fun h0=>?_⟩
 have h3:=this.2.2 h0
 rw [(h (k - 1) (by omega)).1,(h (k - 1) (by omega)).2] at h3
 exact h3
theorem curveOK_eq {n:Nat} {X Y X' Y':Nat→Int} {a b:Int} (h:∀k,k<n→X k=X' k∧Y k=Y' k) (ht:CurveOK n X Y a b):CurveOK n X' Y' a b:=by
 obtain ⟨h1,h2,h3,h4,h5⟩:=ht
 have hn:=h1.1
 refine ⟨tabOK_eq h h1,?_,?_,?_,?_⟩
 ·rw [←(h 0 (by omega)).1];exact h2
 ·rw [←(h 0 (by omega)).2];exact h3
 ·rw [←(h (n - 1) (by omega)).1];exact h4
 ·rw [←(h (n - 1) (by omega)).2];exact h5
theorem ndP_eq {D D':Nds} {i j:Nat} (h:zA7 D i=zA7 D' j) (hp:ndP D i):ndP D' j:=by
 obtain ⟨e1,e2,e3,e4,e5,e6,e7,e8,e9,e10⟩:=zO8.1 h
 unfold ndP at*
 rw [e1,e2,e3,e4,e5,e6,e7,e8,e9] at hp
 refine ⟨hp.1,hp.2.1,hp.2.2.1,hp.2.2.2.1,?_⟩
 rw [e9] at e10
 rcases hp.2.2.2.2 with h1 |⟨h1,h2,h3,h4⟩
 ·exact .inl h1
 ·refine .inr ⟨h1,h2,curveOK_eq e10 h3,?_⟩
  have hn:=h3.1.1
  rcases h4 with h4 |⟨a,b,c,d⟩
  ·exact .inl h4
  ·exact .inr ⟨a,b,c,by rw [←(e10 (D'.SN j - 1) (by omega)).2];exact d⟩
theorem lkP_eq {K K':Lks} {i j:Nat} (h:zA5 K i=zA5 K' j) (hp:lkP K i):lkP K' j:=by
 obtain ⟨e1,e2,e3,e4,e5,e6,e7,e8,e9,e10,e11,e12⟩:=zO9.1 h
 unfold lkP at*
 rw [e1,e2,e3,e4,e5,e6,e7,e8,e9,e10,e11] at hp
 rw [e11] at e12
 refine ⟨hp.1,hp.2.1,hp.2.2.1,hp.2.2.2.1,hp.2.2.2.2.1,hp.2.2.2.2.2.1,?_⟩
 rcases hp.2.2.2.2.2.2 with h1 |h1 |h1 |⟨h1,h2,h3,h4,h5,h6,h7⟩
 ·exact .inl h1
 ·exact .inr (.inl h1)
 ·exact .inr (.inr (.inl h1))
 ·refine .inr (.inr (.inr ⟨h1,h2,h3,h4,h5,h6,tabOK_eq e12 h7.1,fun k hk=>?_⟩))
  rw [←(e12 k hk).1,←(e12 k hk).2]
  exact h7.2 k hk
theorem nm_of {D D':Nds} {i j:Nat} (h:zA7 D i=zA7 D' j):D.Nm i=D'.Nm j:=(zO8.1 h).1
theorem netP_eq {D D':Nds} {K K':Lks} {n n' m m':Nat} (h:netS D n K m D' n' K' m') (hp:netP D n K m):netP D' n' K' m':=by
 obtain ⟨h1,h2⟩:=h
 obtain ⟨rfl,hN⟩:=zO0.1 h1
 obtain ⟨rfl,hL⟩:=zO2.1 h2
 have fN:∀s,fnd D.Nm n s=fnd D'.Nm n s:=fnd_eq fun i hi=>nm_of (hN i hi)
 have fL:∀s,fnd K.Nm m s=fnd K'.Nm m s:=fnd_eq fun i hi=>(zO9.1 (hL i hi)).1
 refine ⟨hp.1,hp.2.1,fun i hi=>?_,fun i hi=>?_⟩
 ·obtain ⟨a,b⟩:=hp.2.2.1 i hi
  refine ⟨ndP_eq (hN i hi) a,?_⟩
  rw [←fN,←nm_of (hN i hi)];exact b
 ·obtain ⟨a,b,c,d,e⟩:=hp.2.2.2 i hi
  obtain ⟨e1,e2,e3,_⟩:=zO9.1 (hL i hi)
  refine ⟨lkP_eq (hL i hi) a,?_,?_,?_,?_⟩
  ·rw [←fL,←e1];exact b
  ·rw [←fN,←e2];exact c
  ·rw [←fN,←e3];exact d
  ·rw [←fN,←e2]
   have hq:=fnd_bd D.Nm n (K.Fr i)
   rcases hq with hq |⟨k,hk,hq,_⟩
   ·omega
   ·rw [hq,Int.toNat_natCast] at e⊢
    rw [←(zO8.1 (hN k hk)).2.1]
    exact e
theorem same_n (D D':Nds) (i j:Nat) (w:World) (hA:TabIn w (D.SA i) (D.SN i) (D.SX i) (D.SY i)) (hB:TabIn w (D'.SA j) (D'.SN j) (D'.SX j) (D'.SY j)):Calls Tryz.prog 172 #[.agg (ndA D i),.agg (ndA D' j)] w fun e w'=>e= .returned (.bool (boolOf (zA7 D i=zA7 D' j)))∧Below w.heap.size w w':=by
 have h:=nsameN (D.Nm i) (D.Kd i) (D.Ax i) (D.Ay i) (D.Iv i) (D.Gd i) (D.Pt i) (D.Rs i) (D'.Nm j) (D'.Kd j) (D'.Ax j) (D'.Ay j) (D'.Iv j) (D'.Gd j) (D'.Pt j) (D'.Rs j) (D.SA i) (D.SN i) (D.SC i) (D.SX i) (D.SY i) (D'.SA j) (D'.SN j) (D'.SC j) (D'.SX j) (D'.SY j) w hA hB
 rw [←zO8] at h
 exact h
theorem same_r (D D':Nds) (i j:Nat) (w:World) (hA:TabIn w (D.SA i) (D.SN i) (D.SX i) (D.SY i)) (hB:TabIn w (D'.SA j) (D'.SN j) (D'.SX j) (D'.SY j)):Calls Tryz.prog 49 #[.agg (ndA D i),.agg (ndA D' j)] w fun e w'=>e= .returned (.bool (boolOf (zA7 D i=zA7 D' j)))∧Below w.heap.size w w':=by
 have h:=rsameN (D.Nm i) (D.Kd i) (D.Ax i) (D.Ay i) (D.Iv i) (D.Gd i) (D.Pt i) (D.Rs i) (D'.Nm j) (D'.Kd j) (D'.Ax j) (D'.Ay j) (D'.Iv j) (D'.Gd j) (D'.Pt j) (D'.Rs j) (D.SA i) (D.SN i) (D.SC i) (D.SX i) (D.SY i) (D'.SA j) (D'.SN j) (D'.SC j) (D'.SX j) (D'.SY j) w hA hB
 rw [←zO8] at h
 exact h
theorem same_l (D D':Lks) (i j:Nat) (w:World) (hA:TabIn w (D.CA i) (D.CN i) (D.CX i) (D.CY i)) (hB:TabIn w (D'.CA j) (D'.CN j) (D'.CX j) (D'.CY j)):Calls Tryz.prog 156 #[.agg (lkA D i),.agg (lkA D' j)] w fun e w'=>e= .returned (.bool (boolOf (zA5 D i=zA5 D' j)))∧Below w.heap.size w w':=by
 have h:=nsame (D.Nm i) (D.Fr i) (D.To i) (D.Kd i) (D.Ln i) (D.Up i) (D.Dn i) (D.Sc i) (D.Wd i) (D.Ht i) (D.CA i) (D.CN i) (D.CC i) (D.CX i) (D.CY i) (D'.Nm j) (D'.Fr j) (D'.To j) (D'.Kd j) (D'.Ln j) (D'.Up j) (D'.Dn j) (D'.Sc j) (D'.Wd j) (D'.Ht j) (D'.CA j) (D'.CN j) (D'.CC j) (D'.CX j) (D'.CY j) w hA hB
 rw [←zO9] at h
 exact h
theorem same_k (D D':Lks) (i j:Nat) (w:World) (hA:TabIn w (D.CA i) (D.CN i) (D.CX i) (D.CY i)) (hB:TabIn w (D'.CA j) (D'.CN j) (D'.CX j) (D'.CY j)):Calls Tryz.prog 50 #[.agg (lkA D i),.agg (lkA D' j)] w fun e w'=>e= .returned (.bool (boolOf (zA5 D i=zA5 D' j)))∧Below w.heap.size w w':=by
 have h:=rsameL (D.Nm i) (D.Fr i) (D.To i) (D.Kd i) (D.Ln i) (D.Up i) (D.Dn i) (D.Sc i) (D.Wd i) (D.Ht i) (D'.Nm j) (D'.Fr j) (D'.To j) (D'.Kd j) (D'.Ln j) (D'.Up j) (D'.Dn j) (D'.Sc j) (D'.Wd j) (D'.Ht j) (D.CA i) (D.CN i) (D.CC i) (D.CX i) (D.CY i) (D'.CA j) (D'.CN j) (D'.CC j) (D'.CX j) (D'.CY j) w hA hB
 rw [←zO9] at h
 exact h
set_option maxRecDepth 100000 in
set_option maxHeartbeats 8000000 in
theorem eqf_n (NA NB:Option Addr) (n n' c c':Nat) (D D':Nds) (w:World) (h2:n≤2000) (hA:NdIn w NA n D) (hB:NdIn w NB n' D'):
 Calls Tryz.prog 171 #[.slice NA n c,.slice NB n' c',.func (.func 172) #[] #[]] w fun e w'=>e= .returned (.bool (boolOf (recN D n=recN D' n')))∧Below w.heap.size w w':=by
 have HA:=LH hA
 have HB:=LH hB
 have H2:=LH h2
 obtain ⟨f,hf⟩:∃f,Hid (f=boolOf (recN D n=recN D' n')):=⟨_,rfl⟩
 rw [←hf.out]
 by_cases hnm:n=n'
 case neg=>
  obtain rfl:f=false:=by rw [hf.out];exact zA0 fun h=>hnm (zO0.1 h).1
  have t1:(n==n')=false:=by simpa using hnm
  have t2:(n !=n')=true:=by simpa using hnm
  have t3:((n:Int)==(n':Int))=false:=by rw [beq_eq_false_iff_ne];omega
  have t4:((n:Int)!=(n':Int))=true:=by simp;omega
  clear hA hB hnm hf
  go_enter Tryz.func171,Tryz.ntmps171
  go_wp2_with fail
  go_ret
  exact ⟨rfl,bR _ _⟩
 case pos=>
 subst hnm
 clear hA hB
 go_enter Tryz.func171,Tryz.ntmps171
 go_wp2_with fail
 go_loopw [17] (fun u wr=>∃i:Nat,Hid (i≤n)∧u= .int .i64 i∧Hid (∀j,j<i→zA7 D j=zA7 D' j)∧Hid (Below w.heap.size w wr)) (fun u _=>n - (RowKit.intOf u).toNat)
 case atStart=>exact ⟨0,Nat.zero_le _,rfl,fun j hj=>absurd hj (Nat.not_lt_zero _),bR _ _⟩
 case round=>
  obtain ⟨i,Hi,rfl,HG,HW⟩:=hrel
  by_cases hlt:i<n
  ·have T0:decide ((i:Int)<(n:Int))=true:=by simp<;> omega
   have T0':decide (i<n)=true:=dU hlt
   obtain ⟨i',hi'⟩:∃z,z=i+1:=⟨_,rfl⟩
   have x0:IntKind.i64.wrap ((i:Int)+1)=(i':Int):=by have:=H2.out;rw [IntKind.wrap_i64];omega
   have HI':Hid (i'≤n∧i'=i+1):=⟨by omega,hi'⟩
   have HMS:Hid (n - (RowKit.intOf (Value.int .i64 (i':Int))).toNat<n - (RowKit.intOf (Value.int .i64 (i:Int))).toNat):=by show _<_;simp [RowKit.intOf];omega
   have k0:(0:Int)≤(i:Int):=by omega
   have k1:(i:Int)<(n:Int):=by omega
   have HLT:=LH hlt
   obtain ⟨b1,o1,rfl,hb1,hC1,ht1⟩:=(HA.out.below (nl _) HW.out).at hlt
   obtain ⟨b2,o2,rfl,hb2,hC2,ht2⟩:=(HB.out.below (nl _) HW.out).at hlt
   have HT1:=LH ht1
   have HT2:=LH ht2
   have p0:=hC1 0 _ rfl
   have q0:=hC2 0 _ rfl
   have p1:=hC1 1 _ rfl
   have q1:=hC2 1 _ rfl
   have p2:=hC1 2 _ rfl
   have q2:=hC2 2 _ rfl
   have p3:=hC1 3 _ rfl
   have q3:=hC2 3 _ rfl
   have p4:=hC1 4 _ rfl
   have q4:=hC2 4 _ rfl
   have p5:=hC1 5 _ rfl
   have q5:=hC2 5 _ rfl
   have p6:=hC1 6 _ rfl
   have q6:=hC2 6 _ rfl
   have p7:=hC1 7 _ rfl
   have q7:=hC2 7 _ rfl
   have p8:=hC1 8 _ rfl
   have q8:=hC2 8 _ rfl
   simp only [Nat.add_zero] at p0 q0
   clear hi' hlt hC1 hC2 ht1 ht2
   go_upto_region 7 with fail
   have hal:Below wr.heap.size wr ((wr.alloc (Obj.cells (ndA D i) 30)).alloc (Obj.cells (ndA D' i) 30)):=((bR _ wr).alloc (nl _) _).alloc (by simp) _
   have HX1:Hid (Blk ((wr.alloc (Obj.cells (ndA D i) 30)).alloc (Obj.cells (ndA D' i) 30)) wr.heap.size 30 (ndA D i)):=(Blk.new _ _ _).alloc _
   have HX2:Hid (Blk ((wr.alloc (Obj.cells (ndA D i) 30)).alloc (Obj.cells (ndA D' i) 30)) (wr.heap.size+1) 30 (ndA D' i)):=by have h:=Blk.new (wr.alloc (Obj.cells (ndA D i) 30)) 30 (ndA D' i);simp at h;exact h
   have HS:Hid (Calls Tryz.prog 172 #[.agg (ndA D i),.agg (ndA D' i)] ((wr.alloc (Obj.cells (ndA D i) 30)).alloc (Obj.cells (ndA D' i) 30)) fun e w'=>e= .returned (.bool (boolOf (zA7 D i=zA7 D' i)))∧Below ((wr.alloc (Obj.cells (ndA D i) 30)).alloc (Obj.cells (ndA D' i) 30)).heap.size ((wr.alloc (Obj.cells (ndA D i) 30)).alloc (Obj.cells (ndA D' i) 30)) w'):=same_n D D' i i _ (HT1.out.below (nl _) hal) (HT2.out.below (nl _) hal)
   have HAL:=LH hal
   clear hal p0 q0 p1 q1 p2 q2 p3 q3 p4 q4 p5 q5 p6 q6 p7 q7 p8 q8 hb1 hb2
   unfold ndA at HX1 HX2 HS HAL
   generalize (wr.alloc (Obj.cells _ 30)).alloc (Obj.cells _ 30)=w5 at HX1 HX2 HS HAL⊢
   obtain ⟨a0_,a1_,a2_,a3_,a4_,a5_,a6_,a7_,a8_⟩:=blk9 HX1.out
   obtain ⟨b0_,b1_,b2_,b3_,b4_,b5_,b6_,b7_,b8_⟩:=blk9 HX2.out
   have HST:Hid (zA7 D i=zA7 D' i→∀j,j<i'→zA7 D j=zA7 D' j):=fun h j hj=>by
        rcases Nat.lt_or_ge j i with g |g
        ·exact HG.out j g
        ·have:j=i:=by have:=HI'.out.2;omega
         rw [this];exact h
   have HNO:Hid (¬(zA7 D i=zA7 D' i)→f=false):=fun h=>by
        rw [hf.out];exact zA0 fun g=>h ((zO0.1 g).2 i HLT.out)
   by_cases hq:zA7 D i=zA7 D' i
   ·rw [zA2 hq] at HS
    have HQ:=LH (HST.out hq)
    clear hq HST HNO
    go_wp2_with (first
     |(go_at_call 172
       with_reducible refine HS.out.mono ?_
       rintro e w6 ⟨rfl,hb6⟩
       have HB6:=LH (zA1 HW.out (zA1 HAL.out hb6))
       clear hb6))
    go_roundw
    case rel=>exact ⟨i',HI'.out.1,rfl,HQ,HB6⟩
    case measure=>exact HMS.out
   ·rw [zA0 hq] at HS
    obtain rfl:f=false:=HNO.out hq
    clear hq HST HNO
    go_wp2_with (first
     |(go_at_call 172
       with_reducible refine HS.out.mono ?_
       rintro e w6 ⟨rfl,hb6⟩
       have HB6:=LH (zA1 HW.out (zA1 HAL.out hb6))
       clear hb6))
    go_ret
    exact ⟨rfl,HB6.out⟩
  ·have hin:i=n:=by have:=Hi.out;omega
   have T0:decide ((i:Int)<(n:Int))=false:=by simp<;> omega
   have T0':decide (i<n)=false:=dF hlt
   obtain rfl:f=true:=by rw [hf.out];exact zA2 (zO0.2 ⟨rfl,by rw [←hin];exact HG.out⟩)
   clear hlt hin
   go_wp2_with fail
   go_ret
   exact ⟨rfl,HW.out⟩
set_option maxRecDepth 100000 in
set_option maxHeartbeats 8000000 in
theorem eqf_l (NA NB:Option Addr) (n n' c c':Nat) (D D':Lks) (w:World) (h2:n≤2000) (hA:LkIn w NA n D) (hB:LkIn w NB n' D'):
 Calls Tryz.prog 173 #[.slice NA n c,.slice NB n' c',.func (.func 156) #[] #[]] w fun e w'=>e= .returned (.bool (boolOf (recL D n=recL D' n')))∧Below w.heap.size w w':=by
 have HA:=LH hA
 have HB:=LH hB
 have H2:=LH h2
 obtain ⟨f,hf⟩:∃f,Hid (f=boolOf (recL D n=recL D' n')):=⟨_,rfl⟩
 rw [←hf.out]
 by_cases hnm:n=n'
 case neg=>
  obtain rfl:f=false:=by rw [hf.out];exact zA0 fun h=>hnm (zO2.1 h).1
  have t1:(n==n')=false:=by simpa using hnm
  have t2:(n !=n')=true:=by simpa using hnm
  have t3:((n:Int)==(n':Int))=false:=by rw [beq_eq_false_iff_ne];omega
  have t4:((n:Int)!=(n':Int))=true:=by simp;omega
  clear hA hB hnm hf
  go_enter Tryz.func173,Tryz.ntmps173
  go_wp2_with fail
  go_ret
  exact ⟨rfl,bR _ _⟩
 case pos=>
 subst hnm
 clear hA hB
 go_enter Tryz.func173,Tryz.ntmps173
 go_wp2_with fail
 go_loopw [17] (fun u wr=>∃i:Nat,Hid (i≤n)∧u= .int .i64 i∧Hid (∀j,j<i→zA5 D j=zA5 D' j)∧Hid (Below w.heap.size w wr)) (fun u _=>n - (RowKit.intOf u).toNat)
 case atStart=>exact ⟨0,Nat.zero_le _,rfl,fun j hj=>absurd hj (Nat.not_lt_zero _),bR _ _⟩
 case round=>
  obtain ⟨i,Hi,rfl,HG,HW⟩:=hrel
  by_cases hlt:i<n
  ·have T0:decide ((i:Int)<(n:Int))=true:=by simp<;> omega
   have T0':decide (i<n)=true:=dU hlt
   obtain ⟨i',hi'⟩:∃z,z=i+1:=⟨_,rfl⟩
   have x0:IntKind.i64.wrap ((i:Int)+1)=(i':Int):=by have:=H2.out;rw [IntKind.wrap_i64];omega
   have HI':Hid (i'≤n∧i'=i+1):=⟨by omega,hi'⟩
   have HMS:Hid (n - (RowKit.intOf (Value.int .i64 (i':Int))).toNat<n - (RowKit.intOf (Value.int .i64 (i:Int))).toNat):=by show _<_;simp [RowKit.intOf];omega
   have k0:(0:Int)≤(i:Int):=by omega
   have k1:(i:Int)<(n:Int):=by omega
   have HLT:=LH hlt
   obtain ⟨b1,o1,rfl,hb1,hC1,ht1⟩:=(HA.out.below (nl _) HW.out).at hlt
   obtain ⟨b2,o2,rfl,hb2,hC2,ht2⟩:=(HB.out.below (nl _) HW.out).at hlt
   have HT1:=LH ht1
   have HT2:=LH ht2
   have p0:=hC1 0 _ rfl
   have q0:=hC2 0 _ rfl
   have p1:=hC1 1 _ rfl
   have q1:=hC2 1 _ rfl
   have p2:=hC1 2 _ rfl
   have q2:=hC2 2 _ rfl
   have p3:=hC1 3 _ rfl
   have q3:=hC2 3 _ rfl
   have p4:=hC1 4 _ rfl
   have q4:=hC2 4 _ rfl
   have p5:=hC1 5 _ rfl
   have q5:=hC2 5 _ rfl
   have p6:=hC1 6 _ rfl
   have q6:=hC2 6 _ rfl
   have p7:=hC1 7 _ rfl
   have q7:=hC2 7 _ rfl
   have p8:=hC1 8 _ rfl
   have q8:=hC2 8 _ rfl
   have p9:=hC1 9 _ rfl
   have q9:=hC2 9 _ rfl
   have p10:=hC1 10 _ rfl
   have q10:=hC2 10 _ rfl
   simp only [Nat.add_zero] at p0 q0
   clear hi' hlt hC1 hC2 ht1 ht2
   go_upto_region 7 with fail
   have hal:Below wr.heap.size wr ((wr.alloc (Obj.cells (lkA D i) 32)).alloc (Obj.cells (lkA D' i) 32)):=((bR _ wr).alloc (nl _) _).alloc (by simp) _
   have HX1:Hid (Blk ((wr.alloc (Obj.cells (lkA D i) 32)).alloc (Obj.cells (lkA D' i) 32)) wr.heap.size 32 (lkA D i)):=(Blk.new _ _ _).alloc _
   have HX2:Hid (Blk ((wr.alloc (Obj.cells (lkA D i) 32)).alloc (Obj.cells (lkA D' i) 32)) (wr.heap.size+1) 32 (lkA D' i)):=by have h:=Blk.new (wr.alloc (Obj.cells (lkA D i) 32)) 32 (lkA D' i);simp at h;exact h
   have HS:Hid (Calls Tryz.prog 156 #[.agg (lkA D i),.agg (lkA D' i)] ((wr.alloc (Obj.cells (lkA D i) 32)).alloc (Obj.cells (lkA D' i) 32)) fun e w'=>e= .returned (.bool (boolOf (zA5 D i=zA5 D' i)))∧Below ((wr.alloc (Obj.cells (lkA D i) 32)).alloc (Obj.cells (lkA D' i) 32)).heap.size ((wr.alloc (Obj.cells (lkA D i) 32)).alloc (Obj.cells (lkA D' i) 32)) w'):=same_l D D' i i _ (HT1.out.below (nl _) hal) (HT2.out.below (nl _) hal)
   have HAL:=LH hal
   clear hal p0 q0 p1 q1 p2 q2 p3 q3 p4 q4 p5 q5 p6 q6 p7 q7 p8 q8 p9 q9 p10 q10 hb1 hb2
   unfold lkA at HX1 HX2 HS HAL
   generalize (wr.alloc (Obj.cells _ 32)).alloc (Obj.cells _ 32)=w5 at HX1 HX2 HS HAL⊢
   obtain ⟨a0_,a1_,a2_,a3_,a4_,a5_,a6_,a7_,a8_,a9_,a10_⟩:=zC5 HX1.out
   obtain ⟨b0_,b1_,b2_,b3_,b4_,b5_,b6_,b7_,b8_,b9_,b10_⟩:=zC5 HX2.out
   have HST:Hid (zA5 D i=zA5 D' i→∀j,j<i'→zA5 D j=zA5 D' j):=fun h j hj=>by
        rcases Nat.lt_or_ge j i with g |g
        ·exact HG.out j g
        ·have:j=i:=by have:=HI'.out.2;omega
         rw [this];exact h
   have HNO:Hid (¬(zA5 D i=zA5 D' i)→f=false):=fun h=>by
        rw [hf.out];exact zA0 fun g=>h ((zO2.1 g).2 i HLT.out)
   by_cases hq:zA5 D i=zA5 D' i
   ·rw [zA2 hq] at HS
    have HQ:=LH (HST.out hq)
    clear hq HST HNO
    go_wp2_with (first
     |(go_at_call 156
       with_reducible refine HS.out.mono ?_
       rintro e w6 ⟨rfl,hb6⟩
       have HB6:=LH (zA1 HW.out (zA1 HAL.out hb6))
       clear hb6))
    go_roundw
    case rel=>exact ⟨i',HI'.out.1,rfl,HQ,HB6⟩
    case measure=>exact HMS.out
   ·rw [zA0 hq] at HS
    obtain rfl:f=false:=HNO.out hq
    clear hq HST HNO
    go_wp2_with (first
     |(go_at_call 156
       with_reducible refine HS.out.mono ?_
       rintro e w6 ⟨rfl,hb6⟩
       have HB6:=LH (zA1 HW.out (zA1 HAL.out hb6))
       clear hb6))
    go_ret
    exact ⟨rfl,HB6.out⟩
  ·have hin:i=n:=by have:=Hi.out;omega
   have T0:decide ((i:Int)<(n:Int))=false:=by simp<;> omega
   have T0':decide (i<n)=false:=dF hlt
   obtain rfl:f=true:=by rw [hf.out];exact zA2 (zO2.2 ⟨rfl,by rw [←hin];exact HG.out⟩)
   clear hlt hin
   go_wp2_with fail
   go_ret
   exact ⟨rfl,HW.out⟩
set_option maxRecDepth 100000 in
set_option maxHeartbeats 8000000 in
theorem nsameNet (NA LA NB LB:Option Addr) (n nc m lc n' nc' m' lc':Nat) (D D':Nds) (K K':Lks) (w:World) (h2:n≤2000) (h3:m≤2000) (hD:NdIn w NA n D) (hK:LkIn w LA m K) (hD':NdIn w NB n' D') (hK':LkIn w LB m' K'):
 Calls Tryz.prog 127 #[.agg #[.slice NA n nc,.slice LA m lc],.agg #[.slice NB n' nc',.slice LB m' lc']] w fun e w'=>e= .returned (.bool (boolOf (netS D n K m D' n' K' m')))∧Below w.heap.size w w':=by
 have S1:Hid (∀w',Below w.heap.size w w'→Calls Tryz.prog 171 #[.slice NA n nc,.slice NB n' nc',.func (.func 172) #[] #[]] w' fun e w''=>e= .returned (.bool (boolOf (recN D n=recN D' n')))∧Below w'.heap.size w' w''):=fun w' hb=>eqf_n NA NB n n' nc nc' D D' w' h2 (hD.below (nl _) hb) (hD'.below (nl _) hb)
 have S2:Hid (∀w',Below w.heap.size w w'→Calls Tryz.prog 173 #[.slice LA m lc,.slice LB m' lc',.func (.func 156) #[] #[]] w' fun e w''=>e= .returned (.bool (boolOf (recL K m=recL K' m')))∧Below w'.heap.size w' w''):=fun w' hb=>eqf_l LA LB m m' lc lc' K K' w' h3 (hK.below (nl _) hb) (hK'.below (nl _) hb)
 obtain ⟨V,hV⟩:∃V,Hid (V=boolOf (netS D n K m D' n' K' m')):=⟨_,rfl⟩
 rw [←hV.out]
 have hal:Below w.heap.size w ((w.alloc (Obj.cells #[.slice NA n nc,.slice LA m lc] 52)).alloc (Obj.cells #[.slice NB n' nc',.slice LB m' lc'] 52)):=((bR _ w).alloc (nl _) _).alloc (by simp) _
 have HX1:Hid (Blk ((w.alloc (Obj.cells #[.slice NA n nc,.slice LA m lc] 52)).alloc (Obj.cells #[.slice NB n' nc',.slice LB m' lc'] 52)) w.heap.size 52 #[.slice NA n nc,.slice LA m lc]):=(Blk.new _ _ _).alloc _
 have HX2:Hid (Blk ((w.alloc (Obj.cells #[.slice NA n nc,.slice LA m lc] 52)).alloc (Obj.cells #[.slice NB n' nc',.slice LB m' lc'] 52)) (w.heap.size+1) 52 #[.slice NB n' nc',.slice LB m' lc']):=by have h:=Blk.new (w.alloc (Obj.cells #[.slice NA n nc,.slice LA m lc] 52)) 52 #[.slice NB n' nc',.slice LB m' lc'];simp at h;exact h
 have HAL:=LH hal
 have HN:Hid (¬recN D n=recN D' n'→V=false):=fun h=>by rw [hV.out];exact zA0 fun g=>h g.1
 have HM:Hid (recN D n=recN D' n'→boolOf (recL K m=recL K' m')=V):=fun h=>by
  rw [hV.out]
  refine zI3 ?_
  exact ⟨fun g=>⟨h,zI0 g⟩,fun g=>zA2 g.2⟩
 clear h2 h3 hD hK hD' hK' hal
 by_cases hq:recN D n=recN D' n'
 ·rw [zA2 hq] at S1
  rw [HM.out hq] at S2
  clear hq HN HM hV
  cases V
  all_goals
   go_enter Tryz.func127,Tryz.ntmps127
   go_upto_region 1 with fail
   generalize (w.alloc (Obj.cells #[.slice NA n nc,.slice LA m lc] 52)).alloc (Obj.cells #[.slice NB n' nc',.slice LB m' lc'] 52)=w1 at HX1 HX2 HAL⊢
   obtain ⟨y0,y1⟩:=blk2 HX1.out
   obtain ⟨z0,z1⟩:=blk2 HX2.out
   go_wp2_with (first
      |(go_at_call 171
        with_reducible refine (S1.out _ HAL.out).mono ?_
        rintro e w2 ⟨rfl,hb2⟩
        have HB2:=LH (zA1 HAL.out hb2)
        obtain ⟨y0,y1⟩:=blk2 (HX1.out.call hb2)
        obtain ⟨z0,z1⟩:=blk2 (HX2.out.call hb2)
        clear hb2)
      |(go_at_call 173
        with_reducible refine (S2.out _ HB2.out).mono ?_
        rintro e w3 ⟨rfl,hb3⟩
        have HB3:=LH (zA1 HB2.out hb3)
        clear hb3))
   go_ret
   exact ⟨rfl,HB3.out⟩
 ·rw [zA0 hq] at S1
  obtain rfl:V=false:=HN.out hq
  clear hq HN HM hV
  go_enter Tryz.func127,Tryz.ntmps127
  go_upto_region 1 with fail
  generalize (w.alloc (Obj.cells #[.slice NA n nc,.slice LA m lc] 52)).alloc (Obj.cells #[.slice NB n' nc',.slice LB m' lc'] 52)=w1 at HX1 HX2 HAL⊢
  obtain ⟨y0,y1⟩:=blk2 HX1.out
  obtain ⟨z0,z1⟩:=blk2 HX2.out
  go_wp2_with (first
   |(go_at_call 171
     with_reducible refine (S1.out _ HAL.out).mono ?_
     rintro e w2 ⟨rfl,hb2⟩
     have HB2:=LH (zA1 HAL.out hb2)
     obtain ⟨y0,y1⟩:=blk2 (HX1.out.call hb2)
     obtain ⟨z0,z1⟩:=blk2 (HX2.out.call hb2)
     clear hb2))
  go_ret
  exact ⟨rfl,HB2.out⟩
set_option maxRecDepth 100000 in
set_option maxHeartbeats 16000000 in
theorem rsameNet (NA LA NB LB:Option Addr) (n nc m lc n' nc' m' lc':Nat) (D D':Nds) (K K':Lks) (w:World) (h2:n≤2000) (h3:m≤2000) (hD:NdIn w NA n D) (hK:LkIn w LA m K) (hD':NdIn w NB n' D') (hK':LkIn w LB m' K'):
 Calls Tryz.prog 27 #[.agg #[.slice NA n nc,.slice LA m lc],.agg #[.slice NB n' nc',.slice LB m' lc']] w fun e w'=>e= .returned (.bool (boolOf (netS D n K m D' n' K' m')))∧Below w.heap.size w w':=by
 obtain ⟨f,hf⟩:∃f,Hid (f=boolOf (netS D n K m D' n' K' m')):=⟨_,rfl⟩
 rw [←hf.out]
 have HW:Hid (Below w.heap.size w ((w.alloc (Obj.cells #[.slice NA n nc,.slice LA m lc] 52)).alloc (Obj.cells #[.slice NB n' nc',.slice LB m' lc'] 52))):=((bR _ w).alloc (nl _) _).alloc (by simp) _
 have HX1:Hid (Blk ((w.alloc (Obj.cells #[.slice NA n nc,.slice LA m lc] 52)).alloc (Obj.cells #[.slice NB n' nc',.slice LB m' lc'] 52)) w.heap.size 52 #[.slice NA n nc,.slice LA m lc]):=(Blk.new _ _ _).alloc _
 have HX2:Hid (Blk ((w.alloc (Obj.cells #[.slice NA n nc,.slice LA m lc] 52)).alloc (Obj.cells #[.slice NB n' nc',.slice LB m' lc'] 52)) (w.heap.size+1) 52 #[.slice NB n' nc',.slice LB m' lc']):=by have h:=Blk.new (w.alloc (Obj.cells #[.slice NA n nc,.slice LA m lc] 52)) 52 #[.slice NB n' nc',.slice LB m' lc'];simp at h;exact h
 have HD:=LH hD
 have HD':=LH hD'
 have HK:=LH hK
 have HK':=LH hK'
 have H2:Hid (n≤2000∧m≤2000):=⟨h2,h3⟩
 clear h2 h3 hD hK hD' hK'
 by_cases hnm:n=n'
 case neg=>
  obtain rfl:f=false:=by rw [hf.out];exact zA0 fun h=>hnm (zO0.1 h.1).1
  have t1:(n==n')=false:=by simpa using hnm
  have t2:(n !=n')=true:=by simpa using hnm
  have t3:((n:Int)==(n':Int))=false:=by rw [beq_eq_false_iff_ne];omega
  have t4:((n:Int)!=(n':Int))=true:=by simp;omega
  clear hnm hf
  go_enter Tryz.func27,Tryz.ntmps27
  go_upto_region 1 with fail
  generalize (w.alloc (Obj.cells #[.slice NA n nc,.slice LA m lc] 52)).alloc (Obj.cells #[.slice NB n' nc',.slice LB m' lc'] 52)=w1 at HW HX1 HX2⊢
  obtain ⟨y0,y1⟩:=blk2 HX1.out
  obtain ⟨z0,z1⟩:=blk2 HX2.out
  go_wp2_with fail
  go_ret
  exact ⟨rfl,HW.out⟩
 subst hnm
 by_cases hmm:m=m'
 case neg=>
  obtain rfl:f=false:=by rw [hf.out];exact zA0 fun h=>hmm (zO2.1 h.2).1
  have t1:(m==m')=false:=by simpa using hmm
  have t2:(m !=m')=true:=by simpa using hmm
  have t3:((m:Int)==(m':Int))=false:=by rw [beq_eq_false_iff_ne];omega
  have t4:((m:Int)!=(m':Int))=true:=by simp;omega
  clear hmm hf
  go_enter Tryz.func27,Tryz.ntmps27
  go_upto_region 1 with fail
  generalize (w.alloc (Obj.cells #[.slice NA n nc,.slice LA m lc] 52)).alloc (Obj.cells #[.slice NB n nc',.slice LB m' lc'] 52)=w1 at HW HX1 HX2⊢
  obtain ⟨y0,y1⟩:=blk2 HX1.out
  obtain ⟨z0,z1⟩:=blk2 HX2.out
  go_wp2_with fail
  go_ret
  exact ⟨rfl,HW.out⟩
 subst hmm
 go_enter Tryz.func27,Tryz.ntmps27
 go_upto_region 1 with fail
 generalize (w.alloc (Obj.cells #[.slice NA n nc,.slice LA m lc] 52)).alloc (Obj.cells #[.slice NB n nc',.slice LB m lc'] 52)=w1 at HW HX1 HX2⊢
 obtain ⟨y0,y1⟩:=blk2 HX1.out
 obtain ⟨z0,z1⟩:=blk2 HX2.out
 go_wp2_with fail
 clear y0 y1 z0 z1
 go_loopw [5] (fun u wr=>∃i:Nat,Hid (i≤n)∧u= .int .i64 i∧Hid (∀j,j<i→zA7 D j=zA7 D' j)∧Hid (Below w.heap.size w wr)∧Hid (Blk wr w.heap.size 52 #[.slice NA n nc,.slice LA m lc])∧Hid (Blk wr (w.heap.size+1) 52 #[.slice NB n nc',.slice LB m lc'])) (fun u _=>n - (RowKit.intOf u).toNat)
 case atStart=>exact ⟨0,Nat.zero_le _,rfl,fun j hj=>absurd hj (Nat.not_lt_zero _),HW.out,HX1.out,HX2.out⟩
 case round=>
  clear HW HX1 HX2
  obtain ⟨i,Hi,rfl,HG,HW,HX1,HX2⟩:=hrel
  obtain ⟨y0,y1⟩:=blk2 HX1.out
  obtain ⟨z0,z1⟩:=blk2 HX2.out
  by_cases hlt:i<n
  ·have T0:decide ((i:Int)<(n:Int))=true:=by simp<;> omega
   have T0':decide (i<n)=true:=dU hlt
   obtain ⟨i',hi'⟩:∃z,z=i+1:=⟨_,rfl⟩
   have x0:IntKind.i64.wrap ((i:Int)+1)=(i':Int):=by have:=H2.out;rw [IntKind.wrap_i64];omega
   have HI':Hid (i'≤n∧i'=i+1):=⟨by omega,hi'⟩
   have HMS:Hid (n - (RowKit.intOf (Value.int .i64 (i':Int))).toNat<n - (RowKit.intOf (Value.int .i64 (i:Int))).toNat):=by show _<_;simp [RowKit.intOf];omega
   have k0:(0:Int)≤(i:Int):=by omega
   have k1:(i:Int)<(n:Int):=by omega
   have HLT:=LH hlt
   obtain ⟨b1,o1,hA1,hb1,hC1,ht1⟩:=(HD.out.below (nl _) HW.out).at hlt
   obtain ⟨b2,o2,hA2,hb2,hC2,ht2⟩:=(HD'.out.below (nl _) HW.out).at hlt
   subst hA1 hA2
   have p0:=hC1 0 _ rfl
   have q0:=hC2 0 _ rfl
   have p1:=hC1 1 _ rfl
   have q1:=hC2 1 _ rfl
   have p2:=hC1 2 _ rfl
   have q2:=hC2 2 _ rfl
   have p3:=hC1 3 _ rfl
   have q3:=hC2 3 _ rfl
   have p4:=hC1 4 _ rfl
   have q4:=hC2 4 _ rfl
   have p5:=hC1 5 _ rfl
   have q5:=hC2 5 _ rfl
   have p6:=hC1 6 _ rfl
   have q6:=hC2 6 _ rfl
   have p7:=hC1 7 _ rfl
   have q7:=hC2 7 _ rfl
   have p8:=hC1 8 _ rfl
   have q8:=hC2 8 _ rfl
   simp only [Nat.add_zero] at p0 q0
   have SQ:Hid (∀w',Below wr.heap.size wr w'→Calls Tryz.prog 49 #[.agg #[.string (D.Nm i),.int .i64 (D.Kd i),.int .i64 (D.Ax i),.int .i64 (D.Ay i),.int .i64 (D.Iv i),.int .i64 (D.Gd i),.slice (D.SA i) (D.SN i) (D.SC i),.bool (D.Pt i),.int .i64 (D.Rs i)],.agg #[.string (D'.Nm i),.int .i64 (D'.Kd i),.int .i64 (D'.Ax i),.int .i64 (D'.Ay i),.int .i64 (D'.Iv i),.int .i64 (D'.Gd i),.slice (D'.SA i) (D'.SN i) (D'.SC i),.bool (D'.Pt i),.int .i64 (D'.Rs i)]] w' fun e w''=>e= .returned (.bool (boolOf (zA7 D i=zA7 D' i)))∧Below w'.heap.size w' w''):=fun w' hb=>same_r D D' i i w' (ht1.below (nl _) hb) (ht2.below (nl _) hb)
   have hs0:wr.cell? ⟨w.heap.size,0,none⟩=some (.slice (some ⟨b1,o1,none⟩) n nc)∧wr.cell? ⟨w.heap.size,1,none⟩=some (.slice LA m lc)∧wr.cell? ⟨w.heap.size+1,0,none⟩=some (.slice (some ⟨b2,o2,none⟩) n nc')∧wr.cell? ⟨w.heap.size+1,1,none⟩=some (.slice LB m lc')∧wr.cell? ⟨b1,o1+i*9,none⟩=some (.string (D.Nm i))∧wr.cell? ⟨b1,o1+i*9+1,none⟩=some (.int .i64 (D.Kd i))∧wr.cell? ⟨b1,o1+i*9+2,none⟩=some (.int .i64 (D.Ax i))∧wr.cell? ⟨b1,o1+i*9+3,none⟩=some (.int .i64 (D.Ay i))∧wr.cell? ⟨b1,o1+i*9+4,none⟩=some (.int .i64 (D.Iv i))∧wr.cell? ⟨b1,o1+i*9+5,none⟩=some (.int .i64 (D.Gd i))∧wr.cell? ⟨b1,o1+i*9+6,none⟩=some (.slice (D.SA i) (D.SN i) (D.SC i))∧wr.cell? ⟨b1,o1+i*9+7,none⟩=some (.bool (D.Pt i))∧wr.cell? ⟨b1,o1+i*9+8,none⟩=some (.int .i64 (D.Rs i))∧wr.cell? ⟨b2,o2+i*9,none⟩=some (.string (D'.Nm i))∧wr.cell? ⟨b2,o2+i*9+1,none⟩=some (.int .i64 (D'.Kd i))∧wr.cell? ⟨b2,o2+i*9+2,none⟩=some (.int .i64 (D'.Ax i))∧wr.cell? ⟨b2,o2+i*9+3,none⟩=some (.int .i64 (D'.Ay i))∧wr.cell? ⟨b2,o2+i*9+4,none⟩=some (.int .i64 (D'.Iv i))∧wr.cell? ⟨b2,o2+i*9+5,none⟩=some (.int .i64 (D'.Gd i))∧wr.cell? ⟨b2,o2+i*9+6,none⟩=some (.slice (D'.SA i) (D'.SN i) (D'.SC i))∧wr.cell? ⟨b2,o2+i*9+7,none⟩=some (.bool (D'.Pt i))∧wr.cell? ⟨b2,o2+i*9+8,none⟩=some (.int .i64 (D'.Rs i)):=⟨y0,y1,z0,z1,p0,p1,p2,p3,p4,p5,p6,p7,p8,q0,q1,q2,q3,q4,q5,q6,q7,q8⟩
   have HS:Hid (∀w',Below wr.heap.size wr w'→w'.cell? ⟨w.heap.size,0,none⟩=some (.slice (some ⟨b1,o1,none⟩) n nc)∧w'.cell? ⟨w.heap.size,1,none⟩=some (.slice LA m lc)∧w'.cell? ⟨w.heap.size+1,0,none⟩=some (.slice (some ⟨b2,o2,none⟩) n nc')∧w'.cell? ⟨w.heap.size+1,1,none⟩=some (.slice LB m lc')∧w'.cell? ⟨b1,o1+i*9,none⟩=some (.string (D.Nm i))∧w'.cell? ⟨b1,o1+i*9+1,none⟩=some (.int .i64 (D.Kd i))∧w'.cell? ⟨b1,o1+i*9+2,none⟩=some (.int .i64 (D.Ax i))∧w'.cell? ⟨b1,o1+i*9+3,none⟩=some (.int .i64 (D.Ay i))∧w'.cell? ⟨b1,o1+i*9+4,none⟩=some (.int .i64 (D.Iv i))∧w'.cell? ⟨b1,o1+i*9+5,none⟩=some (.int .i64 (D.Gd i))∧w'.cell? ⟨b1,o1+i*9+6,none⟩=some (.slice (D.SA i) (D.SN i) (D.SC i))∧w'.cell? ⟨b1,o1+i*9+7,none⟩=some (.bool (D.Pt i))∧w'.cell? ⟨b1,o1+i*9+8,none⟩=some (.int .i64 (D.Rs i))∧w'.cell? ⟨b2,o2+i*9,none⟩=some (.string (D'.Nm i))∧w'.cell? ⟨b2,o2+i*9+1,none⟩=some (.int .i64 (D'.Kd i))∧w'.cell? ⟨b2,o2+i*9+2,none⟩=some (.int .i64 (D'.Ax i))∧w'.cell? ⟨b2,o2+i*9+3,none⟩=some (.int .i64 (D'.Ay i))∧w'.cell? ⟨b2,o2+i*9+4,none⟩=some (.int .i64 (D'.Iv i))∧w'.cell? ⟨b2,o2+i*9+5,none⟩=some (.int .i64 (D'.Gd i))∧w'.cell? ⟨b2,o2+i*9+6,none⟩=some (.slice (D'.SA i) (D'.SN i) (D'.SC i))∧w'.cell? ⟨b2,o2+i*9+7,none⟩=some (.bool (D'.Pt i))∧w'.cell? ⟨b2,o2+i*9+8,none⟩=some (.int .i64 (D'.Rs i))):=fun w' hb=>⟨(HX1.out.call hb).cell 0,(HX1.out.call hb).cell 1,(HX2.out.call hb).cell 0,(HX2.out.call hb).cell 1,(hb.cell (p:=⟨b1,o1+i*9,none⟩) hb1).trans p0,(hb.cell (p:=⟨b1,o1+i*9+1,none⟩) hb1).trans p1,(hb.cell (p:=⟨b1,o1+i*9+2,none⟩) hb1).trans p2,(hb.cell (p:=⟨b1,o1+i*9+3,none⟩) hb1).trans p3,(hb.cell (p:=⟨b1,o1+i*9+4,none⟩) hb1).trans p4,(hb.cell (p:=⟨b1,o1+i*9+5,none⟩) hb1).trans p5,(hb.cell (p:=⟨b1,o1+i*9+6,none⟩) hb1).trans p6,(hb.cell (p:=⟨b1,o1+i*9+7,none⟩) hb1).trans p7,(hb.cell (p:=⟨b1,o1+i*9+8,none⟩) hb1).trans p8,(hb.cell (p:=⟨b2,o2+i*9,none⟩) hb2).trans q0,(hb.cell (p:=⟨b2,o2+i*9+1,none⟩) hb2).trans q1,(hb.cell (p:=⟨b2,o2+i*9+2,none⟩) hb2).trans q2,(hb.cell (p:=⟨b2,o2+i*9+3,none⟩) hb2).trans q3,(hb.cell (p:=⟨b2,o2+i*9+4,none⟩) hb2).trans q4,(hb.cell (p:=⟨b2,o2+i*9+5,none⟩) hb2).trans q5,(hb.cell (p:=⟨b2,o2+i*9+6,none⟩) hb2).trans q6,(hb.cell (p:=⟨b2,o2+i*9+7,none⟩) hb2).trans q7,(hb.cell (p:=⟨b2,o2+i*9+8,none⟩) hb2).trans q8⟩
   have HST:Hid (zA7 D i=zA7 D' i→∀j,j<i'→zA7 D j=zA7 D' j):=fun h j hj=>by
        rcases Nat.lt_or_ge j i with g |g
        ·exact HG.out j g
        ·have:j=i:=by have:=HI'.out.2;omega
         rw [this];exact h
   have HNO:Hid (¬(zA7 D i=zA7 D' i)→f=false):=fun h=>by
        rw [hf.out];exact zA0 fun g=>h ((zO0.1 g.1).2 i HLT.out)
   obtain ⟨v,hv⟩:∃v,boolOf (zA7 D i=zA7 D' i)=v:=⟨_,rfl⟩
   rw [hv] at SQ
   have HV:=LH hv
   clear hi' hlt hC1 hC2 ht1 ht2 p0 q0 p1 q1 p2 q2 p3 q3 p4 q4 p5 q5 p6 q6 p7 q7 p8 q8 hb1 hb2 hv
   cases v with
   |false=>
    go_wp2_with fail
    go_region_held3 (fun w'=>w'.cell? ⟨w.heap.size,0,none⟩=some (.slice (some ⟨b1,o1,none⟩) n nc)∧w'.cell? ⟨w.heap.size,1,none⟩=some (.slice LA m lc)∧w'.cell? ⟨w.heap.size+1,0,none⟩=some (.slice (some ⟨b2,o2,none⟩) n nc')∧w'.cell? ⟨w.heap.size+1,1,none⟩=some (.slice LB m lc')∧w'.cell? ⟨b1,o1+i*9,none⟩=some (.string (D.Nm i))∧w'.cell? ⟨b1,o1+i*9+1,none⟩=some (.int .i64 (D.Kd i))∧w'.cell? ⟨b1,o1+i*9+2,none⟩=some (.int .i64 (D.Ax i))∧w'.cell? ⟨b1,o1+i*9+3,none⟩=some (.int .i64 (D.Ay i))∧w'.cell? ⟨b1,o1+i*9+4,none⟩=some (.int .i64 (D.Iv i))∧w'.cell? ⟨b1,o1+i*9+5,none⟩=some (.int .i64 (D.Gd i))∧w'.cell? ⟨b1,o1+i*9+6,none⟩=some (.slice (D.SA i) (D.SN i) (D.SC i))∧w'.cell? ⟨b1,o1+i*9+7,none⟩=some (.bool (D.Pt i))∧w'.cell? ⟨b1,o1+i*9+8,none⟩=some (.int .i64 (D.Rs i))∧w'.cell? ⟨b2,o2+i*9,none⟩=some (.string (D'.Nm i))∧w'.cell? ⟨b2,o2+i*9+1,none⟩=some (.int .i64 (D'.Kd i))∧w'.cell? ⟨b2,o2+i*9+2,none⟩=some (.int .i64 (D'.Ax i))∧w'.cell? ⟨b2,o2+i*9+3,none⟩=some (.int .i64 (D'.Ay i))∧w'.cell? ⟨b2,o2+i*9+4,none⟩=some (.int .i64 (D'.Iv i))∧w'.cell? ⟨b2,o2+i*9+5,none⟩=some (.int .i64 (D'.Gd i))∧w'.cell? ⟨b2,o2+i*9+6,none⟩=some (.slice (D'.SA i) (D'.SN i) (D'.SC i))∧w'.cell? ⟨b2,o2+i*9+7,none⟩=some (.bool (D'.Pt i))∧w'.cell? ⟨b2,o2+i*9+8,none⟩=some (.int .i64 (D'.Rs i))) (first
     |exact hs0
     |exact HS.out _ hq
     |exact HS.out _ hq.drew
     |exact HS.out _ (bR _ wr).drew) (first
     |(go_at_call 49
       with_reducible refine (SQ.out _ ?_).mono ?_
       focus (first |exact bR _ _ |exact (bR _ _).drew)
       rintro e w5 ⟨rfl,hb5⟩
       have hq:Below wr.heap.size wr w5:=by first |exact hb5 |exact (bR _ wr).drew.trans hb5
       have HQ:=LH hq
       clear hb5))
    all_goals
     obtain rfl:f=false:=HNO.out (fun h=>by have h2:=HV.out;rw [zA2 h] at h2;cases h2)
     clear hs0 y0 y1 z0 z1
     go_wp2_with fail
     go_ret
     exact ⟨rfl,zA1 HW.out HQ.out⟩
   |true=>
    go_wp2_with fail
    go_region_held3 (fun w'=>w'.cell? ⟨w.heap.size,0,none⟩=some (.slice (some ⟨b1,o1,none⟩) n nc)∧w'.cell? ⟨w.heap.size,1,none⟩=some (.slice LA m lc)∧w'.cell? ⟨w.heap.size+1,0,none⟩=some (.slice (some ⟨b2,o2,none⟩) n nc')∧w'.cell? ⟨w.heap.size+1,1,none⟩=some (.slice LB m lc')∧w'.cell? ⟨b1,o1+i*9,none⟩=some (.string (D.Nm i))∧w'.cell? ⟨b1,o1+i*9+1,none⟩=some (.int .i64 (D.Kd i))∧w'.cell? ⟨b1,o1+i*9+2,none⟩=some (.int .i64 (D.Ax i))∧w'.cell? ⟨b1,o1+i*9+3,none⟩=some (.int .i64 (D.Ay i))∧w'.cell? ⟨b1,o1+i*9+4,none⟩=some (.int .i64 (D.Iv i))∧w'.cell? ⟨b1,o1+i*9+5,none⟩=some (.int .i64 (D.Gd i))∧w'.cell? ⟨b1,o1+i*9+6,none⟩=some (.slice (D.SA i) (D.SN i) (D.SC i))∧w'.cell? ⟨b1,o1+i*9+7,none⟩=some (.bool (D.Pt i))∧w'.cell? ⟨b1,o1+i*9+8,none⟩=some (.int .i64 (D.Rs i))∧w'.cell? ⟨b2,o2+i*9,none⟩=some (.string (D'.Nm i))∧w'.cell? ⟨b2,o2+i*9+1,none⟩=some (.int .i64 (D'.Kd i))∧w'.cell? ⟨b2,o2+i*9+2,none⟩=some (.int .i64 (D'.Ax i))∧w'.cell? ⟨b2,o2+i*9+3,none⟩=some (.int .i64 (D'.Ay i))∧w'.cell? ⟨b2,o2+i*9+4,none⟩=some (.int .i64 (D'.Iv i))∧w'.cell? ⟨b2,o2+i*9+5,none⟩=some (.int .i64 (D'.Gd i))∧w'.cell? ⟨b2,o2+i*9+6,none⟩=some (.slice (D'.SA i) (D'.SN i) (D'.SC i))∧w'.cell? ⟨b2,o2+i*9+7,none⟩=some (.bool (D'.Pt i))∧w'.cell? ⟨b2,o2+i*9+8,none⟩=some (.int .i64 (D'.Rs i))) (first
     |exact hs0
     |exact HS.out _ hq
     |exact HS.out _ hq.drew
     |exact HS.out _ (bR _ wr).drew) (first
     |(go_at_call 49
       with_reducible refine (SQ.out _ ?_).mono ?_
       focus (first |exact bR _ _ |exact (bR _ _).drew)
       rintro e w5 ⟨rfl,hb5⟩
       have hq:Below wr.heap.size wr w5:=by first |exact hb5 |exact (bR _ wr).drew.trans hb5
       have HQ:=LH hq
       clear hb5))
    all_goals
     clear hs0 y0 y1 z0 z1
     go_wp2_with fail
     go_roundw
     case rel=>exact ⟨i',HI'.out.1,rfl,HST.out (zI0 HV.out),zA1 HW.out HQ.out,HX1.out.call HQ.out,HX2.out.call HQ.out⟩
     case measure=>exact HMS.out
  ·have hin:i=n:=by have:=Hi.out;omega
   have T0:decide ((i:Int)<(n:Int))=false:=by simp<;> omega
   have T0':decide (i<n)=false:=dF hlt
   have HED:Hid (recN D n=recN D' n):=zO0.2 ⟨rfl,by rw [←hin];exact HG.out⟩
   clear hlt hin HG Hi
   go_wp2_with fail
   clear T0 T0' y0 y1 z0 z1
   obtain ⟨wz,hwz⟩:∃wz:World,wz=wr:=⟨_,rfl⟩
   go_loopw [6] (fun u wr=>∃i:Nat,Hid (i≤m)∧u= .int .i64 i∧Hid (∀j,j<i→zA5 K j=zA5 K' j)∧Hid (Below w.heap.size w wr)∧Hid (Blk wr w.heap.size 52 #[.slice NA n nc,.slice LA m lc])∧Hid (Blk wr (w.heap.size+1) 52 #[.slice NB n nc',.slice LB m lc'])) (fun u _=>m - (RowKit.intOf u).toNat)
   case atStart=>exact ⟨0,Nat.zero_le _,rfl,fun j hj=>absurd hj (Nat.not_lt_zero _),HW.out,HX1.out,HX2.out⟩
   case round=>
        clear HW HX1 HX2
        obtain ⟨i,Hi,rfl,HG,HW,HX1,HX2⟩:=hrel
        obtain ⟨y0,y1⟩:=blk2 HX1.out
        obtain ⟨z0,z1⟩:=blk2 HX2.out
        by_cases hlt:i<m
        ·have T0:decide ((i:Int)<(m:Int))=true:=by simp<;> omega
         have T0':decide (i<m)=true:=dU hlt
         obtain ⟨i',hi'⟩:∃z,z=i+1:=⟨_,rfl⟩
         have x0:IntKind.i64.wrap ((i:Int)+1)=(i':Int):=by have:=H2.out;rw [IntKind.wrap_i64];omega
         have HI':Hid (i'≤m∧i'=i+1):=⟨by omega,hi'⟩
         have HMS:Hid (m - (RowKit.intOf (Value.int .i64 (i':Int))).toNat<m - (RowKit.intOf (Value.int .i64 (i:Int))).toNat):=by show _<_;simp [RowKit.intOf];omega
         have k0:(0:Int)≤(i:Int):=by omega
         have k1:(i:Int)<(m:Int):=by omega
         have HLT:=LH hlt
         obtain ⟨b1,o1,hA1,hb1,hC1,ht1⟩:=(HK.out.below (nl _) HW.out).at hlt
         obtain ⟨b2,o2,hA2,hb2,hC2,ht2⟩:=(HK'.out.below (nl _) HW.out).at hlt
         subst hA1 hA2
         have p0:=hC1 0 _ rfl
         have q0:=hC2 0 _ rfl
         have p1:=hC1 1 _ rfl
         have q1:=hC2 1 _ rfl
         have p2:=hC1 2 _ rfl
         have q2:=hC2 2 _ rfl
         have p3:=hC1 3 _ rfl
         have q3:=hC2 3 _ rfl
         have p4:=hC1 4 _ rfl
         have q4:=hC2 4 _ rfl
         have p5:=hC1 5 _ rfl
         have q5:=hC2 5 _ rfl
         have p6:=hC1 6 _ rfl
         have q6:=hC2 6 _ rfl
         have p7:=hC1 7 _ rfl
         have q7:=hC2 7 _ rfl
         have p8:=hC1 8 _ rfl
         have q8:=hC2 8 _ rfl
         have p9:=hC1 9 _ rfl
         have q9:=hC2 9 _ rfl
         have p10:=hC1 10 _ rfl
         have q10:=hC2 10 _ rfl
         simp only [Nat.add_zero] at p0 q0
         have SQ:Hid (∀w',Below wr.heap.size wr w'→Calls Tryz.prog 50 #[.agg #[.string (K.Nm i),.string (K.Fr i),.string (K.To i),.int .i64 (K.Kd i),.int .i64 (K.Ln i),.int .i64 (K.Up i),.int .i64 (K.Dn i),.string (K.Sc i),.int .i64 (K.Wd i),.int .i64 (K.Ht i),.slice (K.CA i) (K.CN i) (K.CC i)],.agg #[.string (K'.Nm i),.string (K'.Fr i),.string (K'.To i),.int .i64 (K'.Kd i),.int .i64 (K'.Ln i),.int .i64 (K'.Up i),.int .i64 (K'.Dn i),.string (K'.Sc i),.int .i64 (K'.Wd i),.int .i64 (K'.Ht i),.slice (K'.CA i) (K'.CN i) (K'.CC i)]] w' fun e w''=>e= .returned (.bool (boolOf (zA5 K i=zA5 K' i)))∧Below w'.heap.size w' w''):=fun w' hb=>same_k K K' i i w' (ht1.below (nl _) hb) (ht2.below (nl _) hb)
         have hs0:wr.cell? ⟨w.heap.size,0,none⟩=some (.slice NA n nc)∧wr.cell? ⟨w.heap.size,1,none⟩=some (.slice (some ⟨b1,o1,none⟩) m lc)∧wr.cell? ⟨w.heap.size+1,0,none⟩=some (.slice NB n nc')∧wr.cell? ⟨w.heap.size+1,1,none⟩=some (.slice (some ⟨b2,o2,none⟩) m lc')∧wr.cell? ⟨b1,o1+i*11,none⟩=some (.string (K.Nm i))∧wr.cell? ⟨b1,o1+i*11+1,none⟩=some (.string (K.Fr i))∧wr.cell? ⟨b1,o1+i*11+2,none⟩=some (.string (K.To i))∧wr.cell? ⟨b1,o1+i*11+3,none⟩=some (.int .i64 (K.Kd i))∧wr.cell? ⟨b1,o1+i*11+4,none⟩=some (.int .i64 (K.Ln i))∧wr.cell? ⟨b1,o1+i*11+5,none⟩=some (.int .i64 (K.Up i))∧wr.cell? ⟨b1,o1+i*11+6,none⟩=some (.int .i64 (K.Dn i))∧wr.cell? ⟨b1,o1+i*11+7,none⟩=some (.string (K.Sc i))∧wr.cell? ⟨b1,o1+i*11+8,none⟩=some (.int .i64 (K.Wd i))∧wr.cell? ⟨b1,o1+i*11+9,none⟩=some (.int .i64 (K.Ht i))∧wr.cell? ⟨b1,o1+i*11+10,none⟩=some (.slice (K.CA i) (K.CN i) (K.CC i))∧wr.cell? ⟨b2,o2+i*11,none⟩=some (.string (K'.Nm i))∧wr.cell? ⟨b2,o2+i*11+1,none⟩=some (.string (K'.Fr i))∧wr.cell? ⟨b2,o2+i*11+2,none⟩=some (.string (K'.To i))∧wr.cell? ⟨b2,o2+i*11+3,none⟩=some (.int .i64 (K'.Kd i))∧wr.cell? ⟨b2,o2+i*11+4,none⟩=some (.int .i64 (K'.Ln i))∧wr.cell? ⟨b2,o2+i*11+5,none⟩=some (.int .i64 (K'.Up i))∧wr.cell? ⟨b2,o2+i*11+6,none⟩=some (.int .i64 (K'.Dn i))∧wr.cell? ⟨b2,o2+i*11+7,none⟩=some (.string (K'.Sc i))∧wr.cell? ⟨b2,o2+i*11+8,none⟩=some (.int .i64 (K'.Wd i))∧wr.cell? ⟨b2,o2+i*11+9,none⟩=some (.int .i64 (K'.Ht i))∧wr.cell? ⟨b2,o2+i*11+10,none⟩=some (.slice (K'.CA i) (K'.CN i) (K'.CC i)):=⟨y0,y1,z0,z1,p0,p1,p2,p3,p4,p5,p6,p7,p8,p9,p10,q0,q1,q2,q3,q4,q5,q6,q7,q8,q9,q10⟩
         have HS:Hid (∀w',Below wr.heap.size wr w'→w'.cell? ⟨w.heap.size,0,none⟩=some (.slice NA n nc)∧w'.cell? ⟨w.heap.size,1,none⟩=some (.slice (some ⟨b1,o1,none⟩) m lc)∧w'.cell? ⟨w.heap.size+1,0,none⟩=some (.slice NB n nc')∧w'.cell? ⟨w.heap.size+1,1,none⟩=some (.slice (some ⟨b2,o2,none⟩) m lc')∧w'.cell? ⟨b1,o1+i*11,none⟩=some (.string (K.Nm i))∧w'.cell? ⟨b1,o1+i*11+1,none⟩=some (.string (K.Fr i))∧w'.cell? ⟨b1,o1+i*11+2,none⟩=some (.string (K.To i))∧w'.cell? ⟨b1,o1+i*11+3,none⟩=some (.int .i64 (K.Kd i))∧w'.cell? ⟨b1,o1+i*11+4,none⟩=some (.int .i64 (K.Ln i))∧w'.cell? ⟨b1,o1+i*11+5,none⟩=some (.int .i64 (K.Up i))∧w'.cell? ⟨b1,o1+i*11+6,none⟩=some (.int .i64 (K.Dn i))∧w'.cell? ⟨b1,o1+i*11+7,none⟩=some (.string (K.Sc i))∧w'.cell? ⟨b1,o1+i*11+8,none⟩=some (.int .i64 (K.Wd i))∧w'.cell? ⟨b1,o1+i*11+9,none⟩=some (.int .i64 (K.Ht i))∧w'.cell? ⟨b1,o1+i*11+10,none⟩=some (.slice (K.CA i) (K.CN i) (K.CC i))∧w'.cell? ⟨b2,o2+i*11,none⟩=some (.string (K'.Nm i))∧w'.cell? ⟨b2,o2+i*11+1,none⟩=some (.string (K'.Fr i))∧w'.cell? ⟨b2,o2+i*11+2,none⟩=some (.string (K'.To i))∧w'.cell? ⟨b2,o2+i*11+3,none⟩=some (.int .i64 (K'.Kd i))∧w'.cell? ⟨b2,o2+i*11+4,none⟩=some (.int .i64 (K'.Ln i))∧w'.cell? ⟨b2,o2+i*11+5,none⟩=some (.int .i64 (K'.Up i))∧w'.cell? ⟨b2,o2+i*11+6,none⟩=some (.int .i64 (K'.Dn i))∧w'.cell? ⟨b2,o2+i*11+7,none⟩=some (.string (K'.Sc i))∧w'.cell? ⟨b2,o2+i*11+8,none⟩=some (.int .i64 (K'.Wd i))∧w'.cell? ⟨b2,o2+i*11+9,none⟩=some (.int .i64 (K'.Ht i))∧w'.cell? ⟨b2,o2+i*11+10,none⟩=some (.slice (K'.CA i) (K'.CN i) (K'.CC i))):=fun w' hb=>⟨(HX1.out.call hb).cell 0,(HX1.out.call hb).cell 1,(HX2.out.call hb).cell 0,(HX2.out.call hb).cell 1,(hb.cell (p:=⟨b1,o1+i*11,none⟩) hb1).trans p0,(hb.cell (p:=⟨b1,o1+i*11+1,none⟩) hb1).trans p1,(hb.cell (p:=⟨b1,o1+i*11+2,none⟩) hb1).trans p2,(hb.cell (p:=⟨b1,o1+i*11+3,none⟩) hb1).trans p3,(hb.cell (p:=⟨b1,o1+i*11+4,none⟩) hb1).trans p4,(hb.cell (p:=⟨b1,o1+i*11+5,none⟩) hb1).trans p5,(hb.cell (p:=⟨b1,o1+i*11+6,none⟩) hb1).trans p6,(hb.cell (p:=⟨b1,o1+i*11+7,none⟩) hb1).trans p7,(hb.cell (p:=⟨b1,o1+i*11+8,none⟩) hb1).trans p8,(hb.cell (p:=⟨b1,o1+i*11+9,none⟩) hb1).trans p9,(hb.cell (p:=⟨b1,o1+i*11+10,none⟩) hb1).trans p10,(hb.cell (p:=⟨b2,o2+i*11,none⟩) hb2).trans q0,(hb.cell (p:=⟨b2,o2+i*11+1,none⟩) hb2).trans q1,(hb.cell (p:=⟨b2,o2+i*11+2,none⟩) hb2).trans q2,(hb.cell (p:=⟨b2,o2+i*11+3,none⟩) hb2).trans q3,(hb.cell (p:=⟨b2,o2+i*11+4,none⟩) hb2).trans q4,(hb.cell (p:=⟨b2,o2+i*11+5,none⟩) hb2).trans q5,(hb.cell (p:=⟨b2,o2+i*11+6,none⟩) hb2).trans q6,(hb.cell (p:=⟨b2,o2+i*11+7,none⟩) hb2).trans q7,(hb.cell (p:=⟨b2,o2+i*11+8,none⟩) hb2).trans q8,(hb.cell (p:=⟨b2,o2+i*11+9,none⟩) hb2).trans q9,(hb.cell (p:=⟨b2,o2+i*11+10,none⟩) hb2).trans q10⟩
         have HST:Hid (zA5 K i=zA5 K' i→∀j,j<i'→zA5 K j=zA5 K' j):=fun h j hj=>by
          rcases Nat.lt_or_ge j i with g |g
          ·exact HG.out j g
          ·have:j=i:=by have:=HI'.out.2;omega
           rw [this];exact h
         have HNO:Hid (¬(zA5 K i=zA5 K' i)→f=false):=fun h=>by
          rw [hf.out];exact zA0 fun g=>h ((zO2.1 g.2).2 i HLT.out)
         obtain ⟨v,hv⟩:∃v,boolOf (zA5 K i=zA5 K' i)=v:=⟨_,rfl⟩
         rw [hv] at SQ
         have HV:=LH hv
         clear hi' hlt hC1 hC2 ht1 ht2 p0 q0 p1 q1 p2 q2 p3 q3 p4 q4 p5 q5 p6 q6 p7 q7 p8 q8 p9 q9 p10 q10 hb1 hb2 hv
         cases v with
         |false=>
          go_wp2_with fail
          go_region_held3 (fun w'=>w'.cell? ⟨w.heap.size,0,none⟩=some (.slice NA n nc)∧w'.cell? ⟨w.heap.size,1,none⟩=some (.slice (some ⟨b1,o1,none⟩) m lc)∧w'.cell? ⟨w.heap.size+1,0,none⟩=some (.slice NB n nc')∧w'.cell? ⟨w.heap.size+1,1,none⟩=some (.slice (some ⟨b2,o2,none⟩) m lc')∧w'.cell? ⟨b1,o1+i*11,none⟩=some (.string (K.Nm i))∧w'.cell? ⟨b1,o1+i*11+1,none⟩=some (.string (K.Fr i))∧w'.cell? ⟨b1,o1+i*11+2,none⟩=some (.string (K.To i))∧w'.cell? ⟨b1,o1+i*11+3,none⟩=some (.int .i64 (K.Kd i))∧w'.cell? ⟨b1,o1+i*11+4,none⟩=some (.int .i64 (K.Ln i))∧w'.cell? ⟨b1,o1+i*11+5,none⟩=some (.int .i64 (K.Up i))∧w'.cell? ⟨b1,o1+i*11+6,none⟩=some (.int .i64 (K.Dn i))∧w'.cell? ⟨b1,o1+i*11+7,none⟩=some (.string (K.Sc i))∧w'.cell? ⟨b1,o1+i*11+8,none⟩=some (.int .i64 (K.Wd i))∧w'.cell? ⟨b1,o1+i*11+9,none⟩=some (.int .i64 (K.Ht i))∧w'.cell? ⟨b1,o1+i*11+10,none⟩=some (.slice (K.CA i) (K.CN i) (K.CC i))∧w'.cell? ⟨b2,o2+i*11,none⟩=some (.string (K'.Nm i))∧w'.cell? ⟨b2,o2+i*11+1,none⟩=some (.string (K'.Fr i))∧w'.cell? ⟨b2,o2+i*11+2,none⟩=some (.string (K'.To i))∧w'.cell? ⟨b2,o2+i*11+3,none⟩=some (.int .i64 (K'.Kd i))∧w'.cell? ⟨b2,o2+i*11+4,none⟩=some (.int .i64 (K'.Ln i))∧w'.cell? ⟨b2,o2+i*11+5,none⟩=some (.int .i64 (K'.Up i))∧w'.cell? ⟨b2,o2+i*11+6,none⟩=some (.int .i64 (K'.Dn i))∧w'.cell? ⟨b2,o2+i*11+7,none⟩=some (.string (K'.Sc i))∧w'.cell? ⟨b2,o2+i*11+8,none⟩=some (.int .i64 (K'.Wd i))∧w'.cell? ⟨b2,o2+i*11+9,none⟩=some (.int .i64 (K'.Ht i))∧w'.cell? ⟨b2,o2+i*11+10,none⟩=some (.slice (K'.CA i) (K'.CN i) (K'.CC i))) (first
           |exact hs0
           |exact HS.out _ hq
           |exact HS.out _ hq.drew
           |exact HS.out _ (bR _ wr).drew) (first
           |(go_at_call 50
             with_reducible refine (SQ.out _ ?_).mono ?_
             focus (first |exact bR _ _ |exact (bR _ _).drew)
             rintro e w5 ⟨rfl,hb5⟩
             have hq:Below wr.heap.size wr w5:=by first |exact hb5 |exact (bR _ wr).drew.trans hb5
             have HQ:=LH hq
             clear hb5))
          all_goals
           obtain rfl:f=false:=HNO.out (fun h=>by have h2:=HV.out;rw [zA2 h] at h2;cases h2)
           clear hs0 y0 y1 z0 z1
           go_wp2_with fail
           go_ret
           exact ⟨rfl,zA1 HW.out HQ.out⟩
         |true=>
          go_wp2_with fail
          go_region_held3 (fun w'=>w'.cell? ⟨w.heap.size,0,none⟩=some (.slice NA n nc)∧w'.cell? ⟨w.heap.size,1,none⟩=some (.slice (some ⟨b1,o1,none⟩) m lc)∧w'.cell? ⟨w.heap.size+1,0,none⟩=some (.slice NB n nc')∧w'.cell? ⟨w.heap.size+1,1,none⟩=some (.slice (some ⟨b2,o2,none⟩) m lc')∧w'.cell? ⟨b1,o1+i*11,none⟩=some (.string (K.Nm i))∧w'.cell? ⟨b1,o1+i*11+1,none⟩=some (.string (K.Fr i))∧w'.cell? ⟨b1,o1+i*11+2,none⟩=some (.string (K.To i))∧w'.cell? ⟨b1,o1+i*11+3,none⟩=some (.int .i64 (K.Kd i))∧w'.cell? ⟨b1,o1+i*11+4,none⟩=some (.int .i64 (K.Ln i))∧w'.cell? ⟨b1,o1+i*11+5,none⟩=some (.int .i64 (K.Up i))∧w'.cell? ⟨b1,o1+i*11+6,none⟩=some (.int .i64 (K.Dn i))∧w'.cell? ⟨b1,o1+i*11+7,none⟩=some (.string (K.Sc i))∧w'.cell? ⟨b1,o1+i*11+8,none⟩=some (.int .i64 (K.Wd i))∧w'.cell? ⟨b1,o1+i*11+9,none⟩=some (.int .i64 (K.Ht i))∧w'.cell? ⟨b1,o1+i*11+10,none⟩=some (.slice (K.CA i) (K.CN i) (K.CC i))∧w'.cell? ⟨b2,o2+i*11,none⟩=some (.string (K'.Nm i))∧w'.cell? ⟨b2,o2+i*11+1,none⟩=some (.string (K'.Fr i))∧w'.cell? ⟨b2,o2+i*11+2,none⟩=some (.string (K'.To i))∧w'.cell? ⟨b2,o2+i*11+3,none⟩=some (.int .i64 (K'.Kd i))∧w'.cell? ⟨b2,o2+i*11+4,none⟩=some (.int .i64 (K'.Ln i))∧w'.cell? ⟨b2,o2+i*11+5,none⟩=some (.int .i64 (K'.Up i))∧w'.cell? ⟨b2,o2+i*11+6,none⟩=some (.int .i64 (K'.Dn i))∧w'.cell? ⟨b2,o2+i*11+7,none⟩=some (.string (K'.Sc i))∧w'.cell? ⟨b2,o2+i*11+8,none⟩=some (.int .i64 (K'.Wd i))∧w'.cell? ⟨b2,o2+i*11+9,none⟩=some (.int .i64 (K'.Ht i))∧w'.cell? ⟨b2,o2+i*11+10,none⟩=some (.slice (K'.CA i) (K'.CN i) (K'.CC i))) (first
           |exact hs0
           |exact HS.out _ hq
           |exact HS.out _ hq.drew
           |exact HS.out _ (bR _ wr).drew) (first
           |(go_at_call 50
             with_reducible refine (SQ.out _ ?_).mono ?_
             focus (first |exact bR _ _ |exact (bR _ _).drew)
             rintro e w5 ⟨rfl,hb5⟩
             have hq:Below wr.heap.size wr w5:=by first |exact hb5 |exact (bR _ wr).drew.trans hb5
             have HQ:=LH hq
             clear hb5))
          all_goals
           clear hs0 y0 y1 z0 z1
           go_wp2_with fail
           go_roundw
           case rel=>exact ⟨i',HI'.out.1,rfl,HST.out (zI0 HV.out),zA1 HW.out HQ.out,HX1.out.call HQ.out,HX2.out.call HQ.out⟩
           case measure=>exact HMS.out
        ·have hin:i=m:=by have:=Hi.out;omega
         have T0:decide ((i:Int)<(m:Int))=false:=by simp<;> omega
         have T0':decide (i<m)=false:=dF hlt
         have HEK:Hid (recL K m=recL K' m):=zO2.2 ⟨rfl,by rw [←hin];exact HG.out⟩
         clear hlt hin HG Hi
         obtain rfl:f=true:=by rw [hf.out];exact zA2 ⟨HED.out,HEK.out⟩
         go_wp2_with fail
         go_ret
         exact ⟨rfl,HW.out⟩
end Go.Proofs.YtchakniaoeodmaaGreatDoor

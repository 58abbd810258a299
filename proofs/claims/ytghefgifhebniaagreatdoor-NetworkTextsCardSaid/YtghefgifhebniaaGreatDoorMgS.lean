/- Merged texts of these proofs: SmN, Nrc. -/
import Derived.Test.YtghefgifhebniaaGreatDoorNetK
import Derived.Test.YtghefgifhebniaaGreatDoorMgC
import Derived.Test.YtghefgifhebniaaGreatDoorMgJ
import Derived.Test.YtghefgifhebniaaGreatDoorEdg
namespace Go.Proofs.YtghefgifhebniaaGreatDoor
open Go.RowKit
set_option linter.unusedVariables false
set_option linter.unusedSimpArgs false
set_option maxHeartbeats 2000000 in
theorem rtsame (A B:Option Addr) (n m c d:Nat) (X Y X' Y':Nat→Int) (w:World) (hA:TabIn w A n X Y) (hB:TabIn w B m X' Y'):
 Calls Tryz.prog 75 #[.slice A n c,.slice B m d] w fun e w'=>e= .returned (.bool (boolOf (tabEq n X Y m X' Y')))∧Below w.heap.size w w':=by
 have HA:=LH hA
 have HB:=LH hB
 have H2:=LH hA.1
 obtain ⟨f,hf⟩:∃f,Hid (f=boolOf (tabEq n X Y m X' Y')):=⟨_,rfl⟩
 rw [←hf.out]
 by_cases hnm:n=m
 case neg=>
  obtain rfl:f=false:=by rw [hf.out];exact zA0 fun h=>hnm h.1
  have t1:(n==m)=false:=by simpa using hnm
  have t2:(n !=m)=true:=by simpa using hnm
  have t3:((n:Int)==(m:Int))=false:=by rw [beq_eq_false_iff_ne];omega
  have t4:((n:Int)!=(m:Int))=true:=by simp;omega
  clear hA hB hnm hf
  go_enter Tryz.func75,Tryz.ntmps75
  go_wp2_with fail
  go_ret
  exact ⟨rfl,bR _ _⟩
 case pos=>
 subst hnm
 clear hA hB
 go_enter Tryz.func75,Tryz.ntmps75
 go_wp2_with fail
 go_loopw [5] (fun u wr=>∃i:Nat,Hid (i≤n)∧u= .int .i64 i∧Hid (∀j,j<i→X j=X' j∧Y j=Y' j)∧Hid (Below w.heap.size w wr)) (fun u _=>n - (RowKit.intOf u).toNat)
 case atStart=>exact ⟨0,Nat.zero_le _,rfl,fun j hj=>absurd hj (Nat.not_lt_zero _),bR _ _⟩
 case round=>
  obtain ⟨i,Hi,rfl,HG,HW⟩:=hrel
  by_cases hlt:i<n
  ·have T0:decide ((i:Int)<(n:Int))=true:=by simp<;> omega
   have T0':decide (i<n)=true:=dT hlt
   obtain ⟨i',hi'⟩:∃z,z=i+1:=⟨_,rfl⟩
   have x0:IntKind.i64.wrap ((i:Int)+1)=(i':Int):=by have:=H2.out;rw [IntKind.wrap_i64];omega
   have HI':Hid (i'≤n):=by show i'≤n;omega
   have HMS:Hid (n - (RowKit.intOf (Value.int .i64 (i':Int))).toNat<n - (RowKit.intOf (Value.int .i64 (i:Int))).toNat):=by show _<_;simp [RowKit.intOf];omega
   have k0:(0:Int)≤(i:Int):=by omega
   have k1:(i:Int)<(n:Int):=by omega
   obtain ⟨b1,o1,rfl,hb1,p0,p1⟩:=(HA.out.below (nl _) HW.out).at hlt
   obtain ⟨b2,o2,rfl,hb2,q0,q1⟩:=(HB.out.below (nl _) HW.out).at hlt
   have HLT:=LH hlt
   have HST:Hid (X i=X' i∧Y i=Y' i→∀j,j<i'→X j=X' j∧Y j=Y' j):=fun h j hj=>by
        rcases Nat.lt_or_ge j i with g |g
        ·exact HG.out j g
        ·have:j=i:=by omega
         rw [this];exact h
   have HNO:Hid (¬(X i=X' i∧Y i=Y' i)→f=false):=fun h=>by
        rw [hf.out];exact zA0 fun g=>h (g.2 i HLT.out)
   generalize X i=x at p0 HST HNO
   generalize Y i=y at p1 HST HNO
   generalize X' i=x' at q0 HST HNO
   generalize Y' i=y' at q1 HST HNO
   clear hi' hlt
   by_cases hx:x=x'
   ·subst hx
    by_cases hy:y=y'
    ·subst hy
     go_wp2_with fail
     go_quiet (fail)
     go_wp2_with fail
     go_roundw
     case rel=>exact ⟨i',HI',rfl,HST.out (by simp),zA7 HW.out _⟩
     case measure=>exact HMS.out
    ·have t1:(y==y')=false:=by simpa using hy
     have t2:(y !=y')=true:=by simpa using hy
     obtain rfl:f=false:=HNO.out (by simpa using hy)
     clear hy
     go_wp2_with fail
     go_quiet (fail)
     go_wp2_with fail
     go_ret
     exact ⟨rfl,zA7 HW.out _⟩
   ·have t1:(x==x')=false:=by simpa using hx
    have t2:(x !=x')=true:=by simpa using hx
    obtain rfl:f=false:=HNO.out fun h=>hx h.1
    clear hx
    go_wp2_with fail
    go_quiet (fail)
    go_wp2_with fail
    go_ret
    exact ⟨rfl,zA7 HW.out _⟩
  ·have hin:i=n:=by have:=Hi.out;omega
   have T0:decide ((i:Int)<(n:Int))=false:=by simp<;> omega
   have T0':decide (i<n)=false:=dF hlt
   obtain rfl:f=true:=by rw [hf.out];exact zA2 ⟨rfl,by rw [←hin];exact HG.out⟩
   clear hlt hin
   go_wp2_with fail
   go_ret
   exact ⟨rfl,HW.out⟩
def ndEq (nm:ByteArray) (kd ax ay iv gd:Int) (n:Nat) (X Y:Nat→Int) (pt:Bool) (rs:Int) (nm':ByteArray) (kd' ax' ay' iv' gd':Int) (m:Nat) (X' Y':Nat→Int) (pt':Bool) (rs':Int):Prop:=
 nm=nm'∧kd=kd'∧ax=ax'∧ay=ay'∧iv=iv'∧gd=gd'∧pt=pt'∧rs=rs'∧tabEq n X Y m X' Y'
set_option maxRecDepth 100000 in
set_option maxHeartbeats 4000000 in
theorem rsameN (nm:ByteArray) (kd:Int) (ax:Int) (ay:Int) (iv:Int) (gd:Int) (pt:Bool) (rs:Int) (nm':ByteArray) (kd':Int) (ax':Int) (ay':Int) (iv':Int) (gd':Int) (pt':Bool) (rs':Int) (A:Option Addr) (n c:Nat) (X Y:Nat→Int) (B:Option Addr) (m d:Nat) (X' Y':Nat→Int) (w:World) (hA:TabIn w A n X Y) (hB:TabIn w B m X' Y'):
 Calls Tryz.prog 43 #[.agg #[.string nm,.int .i64 kd,.int .i64 ax,.int .i64 ay,.int .i64 iv,.int .i64 gd,.slice A n c,.bool pt,.int .i64 rs],.agg #[.string nm',.int .i64 kd',.int .i64 ax',.int .i64 ay',.int .i64 iv',.int .i64 gd',.slice B m d,.bool pt',.int .i64 rs']] w fun e w'=>e= .returned (.bool (boolOf (ndEq nm kd ax ay iv gd n X Y pt rs nm' kd' ax' ay' iv' gd' m X' Y' pt' rs')))∧Below w.heap.size w w':=by
 have HA:=LH hA
 have HB:=LH hB
 have SQ:=LH fun w hA hB=>rtsame A B n m c d X Y X' Y' w hA hB
 obtain ⟨V,hV⟩:∃V,V=boolOf (ndEq nm kd ax ay iv gd n X Y pt rs nm' kd' ax' ay' iv' gd' m X' Y' pt' rs'):=⟨_,rfl⟩
 rw [←hV]
 clear hA hB
 by_cases g0:nm=nm'
 case neg=>
  obtain rfl:V=false:=by rw [hV];exact zA0 fun h=>g0 h.1
  have t0:¬nm.toList=nm'.toList:=fun h=>g0 (zC1 h)
  have u0:(nm.toList==nm'.toList)=false:=by simp [t0]
  clear hV g0
  go_enter Tryz.func43,Tryz.ntmps43
  go_wp2_with (first |(go_at_call 75;(with_reducible refine (SQ.out _ ?_ ?_).mono ?_);(focus (exact HA.out.below (nl _) bel));(focus (exact HB.out.below (nl _) bel));rintro e w1 ⟨rfl,hb1⟩;obtain ⟨hc1,hf1⟩:=zA4 hb1;have hz1:=hb1.size;(try simp at hz1);(try simp only [heap_drew,World.heap_drewN] at hz1 hc1 hf1);(try have y0:w.heap.size<w1.heap.size:=by omega)))
  go_ret
  exact ⟨rfl,bel⟩
 subst g0
 by_cases g1:kd=kd'
 case neg=>
  obtain rfl:V=false:=by rw [hV];exact zA0 fun h=>g1 h.2.1
  have t1:(kd==kd')=false:=by simpa using g1
  have u1:(kd !=kd')=true:=by simpa using g1
  clear hV g1
  go_enter Tryz.func43,Tryz.ntmps43
  go_wp2_with (first |(go_at_call 75;(with_reducible refine (SQ.out _ ?_ ?_).mono ?_);(focus (exact HA.out.below (nl _) bel));(focus (exact HB.out.below (nl _) bel));rintro e w1 ⟨rfl,hb1⟩;obtain ⟨hc1,hf1⟩:=zA4 hb1;have hz1:=hb1.size;(try simp at hz1);(try simp only [heap_drew,World.heap_drewN] at hz1 hc1 hf1);(try have y0:w.heap.size<w1.heap.size:=by omega)))
  go_ret
  exact ⟨rfl,bel⟩
 subst g1
 by_cases g2:ax=ax'
 case neg=>
  obtain rfl:V=false:=by rw [hV];exact zA0 fun h=>g2 h.2.2.1
  have t2:(ax==ax')=false:=by simpa using g2
  have u2:(ax !=ax')=true:=by simpa using g2
  clear hV g2
  go_enter Tryz.func43,Tryz.ntmps43
  go_wp2_with (first |(go_at_call 75;(with_reducible refine (SQ.out _ ?_ ?_).mono ?_);(focus (exact HA.out.below (nl _) bel));(focus (exact HB.out.below (nl _) bel));rintro e w1 ⟨rfl,hb1⟩;obtain ⟨hc1,hf1⟩:=zA4 hb1;have hz1:=hb1.size;(try simp at hz1);(try simp only [heap_drew,World.heap_drewN] at hz1 hc1 hf1);(try have y0:w.heap.size<w1.heap.size:=by omega)))
  go_ret
  exact ⟨rfl,bel⟩
 subst g2
 by_cases g3:ay=ay'
 case neg=>
  obtain rfl:V=false:=by rw [hV];exact zA0 fun h=>g3 h.2.2.2.1
  have t3:(ay==ay')=false:=by simpa using g3
  have u3:(ay !=ay')=true:=by simpa using g3
  clear hV g3
  go_enter Tryz.func43,Tryz.ntmps43
  go_wp2_with (first |(go_at_call 75;(with_reducible refine (SQ.out _ ?_ ?_).mono ?_);(focus (exact HA.out.below (nl _) bel));(focus (exact HB.out.below (nl _) bel));rintro e w1 ⟨rfl,hb1⟩;obtain ⟨hc1,hf1⟩:=zA4 hb1;have hz1:=hb1.size;(try simp at hz1);(try simp only [heap_drew,World.heap_drewN] at hz1 hc1 hf1);(try have y0:w.heap.size<w1.heap.size:=by omega)))
  go_ret
  exact ⟨rfl,bel⟩
 subst g3
 by_cases g4:iv=iv'
 case neg=>
  obtain rfl:V=false:=by rw [hV];exact zA0 fun h=>g4 h.2.2.2.2.1
  have t4:(iv==iv')=false:=by simpa using g4
  have u4:(iv !=iv')=true:=by simpa using g4
  clear hV g4
  go_enter Tryz.func43,Tryz.ntmps43
  go_wp2_with (first |(go_at_call 75;(with_reducible refine (SQ.out _ ?_ ?_).mono ?_);(focus (exact HA.out.below (nl _) bel));(focus (exact HB.out.below (nl _) bel));rintro e w1 ⟨rfl,hb1⟩;obtain ⟨hc1,hf1⟩:=zA4 hb1;have hz1:=hb1.size;(try simp at hz1);(try simp only [heap_drew,World.heap_drewN] at hz1 hc1 hf1);(try have y0:w.heap.size<w1.heap.size:=by omega)))
  go_ret
  exact ⟨rfl,bel⟩
 subst g4
 by_cases g5:gd=gd'
 case neg=>
  obtain rfl:V=false:=by rw [hV];exact zA0 fun h=>g5 h.2.2.2.2.2.1
  have t5:(gd==gd')=false:=by simpa using g5
  have u5:(gd !=gd')=true:=by simpa using g5
  clear hV g5
  go_enter Tryz.func43,Tryz.ntmps43
  go_wp2_with (first |(go_at_call 75;(with_reducible refine (SQ.out _ ?_ ?_).mono ?_);(focus (exact HA.out.below (nl _) bel));(focus (exact HB.out.below (nl _) bel));rintro e w1 ⟨rfl,hb1⟩;obtain ⟨hc1,hf1⟩:=zA4 hb1;have hz1:=hb1.size;(try simp at hz1);(try simp only [heap_drew,World.heap_drewN] at hz1 hc1 hf1);(try have y0:w.heap.size<w1.heap.size:=by omega)))
  go_ret
  exact ⟨rfl,bel⟩
 subst g5
 cases hq:boolOf (tabEq n X Y m X' Y') with
 |false=>
  obtain rfl:V=false:=by rw [hV];exact zA0 fun h=>by have:=zA2 (h.2.2.2.2.2.2.2.2);rw [hq] at this;cases this
  rw [hq] at SQ
  clear hV hq
  go_enter Tryz.func43,Tryz.ntmps43
  go_wp2_with (first |(go_at_call 75;(with_reducible refine (SQ.out _ ?_ ?_).mono ?_);(focus (exact HA.out.below (nl _) bel));(focus (exact HB.out.below (nl _) bel));rintro e w1 ⟨rfl,hb1⟩;obtain ⟨hc1,hf1⟩:=zA4 hb1;have hz1:=hb1.size;(try simp at hz1);(try simp only [heap_drew,World.heap_drewN] at hz1 hc1 hf1);(try have y0:w.heap.size<w1.heap.size:=by omega)))
  go_ret
  exact ⟨rfl,bel⟩
 |true=>
 have hT:=zJ4 hq
 rw [hq] at SQ
 clear hq
 by_cases g6:pt=pt'
 case neg=>
  obtain rfl:V=false:=by rw [hV];exact zA0 fun h=>g6 h.2.2.2.2.2.2.1
  clear hV
  cases pt<;> cases pt'<;> first |(exact absurd rfl g6)|skip
  all_goals
   clear g6
   go_enter Tryz.func43,Tryz.ntmps43
   go_wp2_with (first |(go_at_call 75;(with_reducible refine (SQ.out _ ?_ ?_).mono ?_);(focus (exact HA.out.below (nl _) bel));(focus (exact HB.out.below (nl _) bel));rintro e w1 ⟨rfl,hb1⟩;obtain ⟨hc1,hf1⟩:=zA4 hb1;have hz1:=hb1.size;(try simp at hz1);(try simp only [heap_drew,World.heap_drewN] at hz1 hc1 hf1);(try have y0:w.heap.size<w1.heap.size:=by omega)))
   go_ret
   exact ⟨rfl,bel⟩
 subst g6
 by_cases g7:rs=rs'
 case neg=>
  obtain rfl:V=false:=by rw [hV];exact zA0 fun h=>g7 h.2.2.2.2.2.2.2.1
  have t7:(rs==rs')=false:=by simpa using g7
  have u7:(rs !=rs')=true:=by simpa using g7
  clear hV g7
  go_enter Tryz.func43,Tryz.ntmps43
  go_wp2_with (first |(go_at_call 75;(with_reducible refine (SQ.out _ ?_ ?_).mono ?_);(focus (exact HA.out.below (nl _) bel));(focus (exact HB.out.below (nl _) bel));rintro e w1 ⟨rfl,hb1⟩;obtain ⟨hc1,hf1⟩:=zA4 hb1;have hz1:=hb1.size;(try simp at hz1);(try simp only [heap_drew,World.heap_drewN] at hz1 hc1 hf1);(try have y0:w.heap.size<w1.heap.size:=by omega)))
  go_ret
  exact ⟨rfl,bel⟩
 subst g7
 obtain rfl:V=true:=by rw [hV];exact zA2 ⟨rfl,rfl,rfl,rfl,rfl,rfl,rfl,rfl,hT⟩
 clear hV hT
 go_enter Tryz.func43,Tryz.ntmps43
 go_wp2_with (first |(go_at_call 75;(with_reducible refine (SQ.out _ ?_ ?_).mono ?_);(focus (exact HA.out.below (nl _) bel));(focus (exact HB.out.below (nl _) bel));rintro e w1 ⟨rfl,hb1⟩;obtain ⟨hc1,hf1⟩:=zA4 hb1;have hz1:=hb1.size;(try simp at hz1);(try simp only [heap_drew,World.heap_drewN] at hz1 hc1 hf1);(try have y0:w.heap.size<w1.heap.size:=by omega)))
 go_ret
 exact ⟨rfl,bel⟩
set_option maxRecDepth 100000 in
set_option maxHeartbeats 4000000 in
theorem rsameL (nm:ByteArray) (fr:ByteArray) (tn:ByteArray) (kd:Int) (ln:Int) (up:Int) (dn:Int) (sc:ByteArray) (wd:Int) (ht:Int) (nm':ByteArray) (fr':ByteArray) (tn':ByteArray) (kd':Int) (ln':Int) (up':Int) (dn':Int) (sc':ByteArray) (wd':Int) (ht':Int) (A:Option Addr) (n c:Nat) (X Y:Nat→Int) (B:Option Addr) (m d:Nat) (X' Y':Nat→Int) (w:World) (hA:TabIn w A n X Y) (hB:TabIn w B m X' Y'):
 Calls Tryz.prog 73 #[.agg #[.string nm,.string fr,.string tn,.int .i64 kd,.int .i64 ln,.int .i64 up,.int .i64 dn,.string sc,.int .i64 wd,.int .i64 ht,.slice A n c],.agg #[.string nm',.string fr',.string tn',.int .i64 kd',.int .i64 ln',.int .i64 up',.int .i64 dn',.string sc',.int .i64 wd',.int .i64 ht',.slice B m d]] w fun e w'=>e= .returned (.bool (boolOf (lkEq nm fr tn kd ln up dn sc wd ht n X Y nm' fr' tn' kd' ln' up' dn' sc' wd' ht' m X' Y')))∧Below w.heap.size w w':=by
 have HA:=LH hA
 have HB:=LH hB
 have SQ:=LH fun w hA hB=>rtsame A B n m c d X Y X' Y' w hA hB
 obtain ⟨V,hV⟩:∃V,V=boolOf (lkEq nm fr tn kd ln up dn sc wd ht n X Y nm' fr' tn' kd' ln' up' dn' sc' wd' ht' m X' Y'):=⟨_,rfl⟩
 rw [←hV]
 clear hA hB
 by_cases g0:nm=nm'
 case neg=>
  obtain rfl:V=false:=by rw [hV];exact zA0 fun h=>g0 h.1
  have t0:¬nm.toList=nm'.toList:=fun h=>g0 (zC1 h)
  have u0:(nm.toList==nm'.toList)=false:=by simp [t0]
  clear hV g0
  go_enter Tryz.func73,Tryz.ntmps73
  go_wp2_with (first |(go_at_call 75;(with_reducible refine (SQ.out _ ?_ ?_).mono ?_);(focus (exact HA.out.below (nl _) bel));(focus (exact HB.out.below (nl _) bel));rintro e w1 ⟨rfl,hb1⟩;obtain ⟨hc1,hf1⟩:=zA4 hb1;have hz1:=hb1.size;(try simp at hz1);(try simp only [heap_drew,World.heap_drewN] at hz1 hc1 hf1);(try have y0:w.heap.size<w1.heap.size:=by omega)))
  go_ret
  exact ⟨rfl,bel⟩
 subst g0
 by_cases g1:fr=fr'
 case neg=>
  obtain rfl:V=false:=by rw [hV];exact zA0 fun h=>g1 h.2.1
  have t1:¬fr.toList=fr'.toList:=fun h=>g1 (zC1 h)
  have u1:(fr.toList==fr'.toList)=false:=by simp [t1]
  clear hV g1
  go_enter Tryz.func73,Tryz.ntmps73
  go_wp2_with (first |(go_at_call 75;(with_reducible refine (SQ.out _ ?_ ?_).mono ?_);(focus (exact HA.out.below (nl _) bel));(focus (exact HB.out.below (nl _) bel));rintro e w1 ⟨rfl,hb1⟩;obtain ⟨hc1,hf1⟩:=zA4 hb1;have hz1:=hb1.size;(try simp at hz1);(try simp only [heap_drew,World.heap_drewN] at hz1 hc1 hf1);(try have y0:w.heap.size<w1.heap.size:=by omega)))
  go_ret
  exact ⟨rfl,bel⟩
 subst g1
 by_cases g2:tn=tn'
 case neg=>
  obtain rfl:V=false:=by rw [hV];exact zA0 fun h=>g2 h.2.2.1
  have t2:¬tn.toList=tn'.toList:=fun h=>g2 (zC1 h)
  have u2:(tn.toList==tn'.toList)=false:=by simp [t2]
  clear hV g2
  go_enter Tryz.func73,Tryz.ntmps73
  go_wp2_with (first |(go_at_call 75;(with_reducible refine (SQ.out _ ?_ ?_).mono ?_);(focus (exact HA.out.below (nl _) bel));(focus (exact HB.out.below (nl _) bel));rintro e w1 ⟨rfl,hb1⟩;obtain ⟨hc1,hf1⟩:=zA4 hb1;have hz1:=hb1.size;(try simp at hz1);(try simp only [heap_drew,World.heap_drewN] at hz1 hc1 hf1);(try have y0:w.heap.size<w1.heap.size:=by omega)))
  go_ret
  exact ⟨rfl,bel⟩
 subst g2
 by_cases g3:kd=kd'
 case neg=>
  obtain rfl:V=false:=by rw [hV];exact zA0 fun h=>g3 h.2.2.2.1
  have t3:(kd==kd')=false:=by simpa using g3
  have u3:(kd !=kd')=true:=by simpa using g3
  clear hV g3
  go_enter Tryz.func73,Tryz.ntmps73
  go_wp2_with (first |(go_at_call 75;(with_reducible refine (SQ.out _ ?_ ?_).mono ?_);(focus (exact HA.out.below (nl _) bel));(focus (exact HB.out.below (nl _) bel));rintro e w1 ⟨rfl,hb1⟩;obtain ⟨hc1,hf1⟩:=zA4 hb1;have hz1:=hb1.size;(try simp at hz1);(try simp only [heap_drew,World.heap_drewN] at hz1 hc1 hf1);(try have y0:w.heap.size<w1.heap.size:=by omega)))
  go_ret
  exact ⟨rfl,bel⟩
 subst g3
 by_cases g4:ln=ln'
 case neg=>
  obtain rfl:V=false:=by rw [hV];exact zA0 fun h=>g4 h.2.2.2.2.1
  have t4:(ln==ln')=false:=by simpa using g4
  have u4:(ln !=ln')=true:=by simpa using g4
  clear hV g4
  go_enter Tryz.func73,Tryz.ntmps73
  go_wp2_with (first |(go_at_call 75;(with_reducible refine (SQ.out _ ?_ ?_).mono ?_);(focus (exact HA.out.below (nl _) bel));(focus (exact HB.out.below (nl _) bel));rintro e w1 ⟨rfl,hb1⟩;obtain ⟨hc1,hf1⟩:=zA4 hb1;have hz1:=hb1.size;(try simp at hz1);(try simp only [heap_drew,World.heap_drewN] at hz1 hc1 hf1);(try have y0:w.heap.size<w1.heap.size:=by omega)))
  go_ret
  exact ⟨rfl,bel⟩
 subst g4
 by_cases g5:up=up'
 case neg=>
  obtain rfl:V=false:=by rw [hV];exact zA0 fun h=>g5 h.2.2.2.2.2.1
  have t5:(up==up')=false:=by simpa using g5
  have u5:(up !=up')=true:=by simpa using g5
  clear hV g5
  go_enter Tryz.func73,Tryz.ntmps73
  go_wp2_with (first |(go_at_call 75;(with_reducible refine (SQ.out _ ?_ ?_).mono ?_);(focus (exact HA.out.below (nl _) bel));(focus (exact HB.out.below (nl _) bel));rintro e w1 ⟨rfl,hb1⟩;obtain ⟨hc1,hf1⟩:=zA4 hb1;have hz1:=hb1.size;(try simp at hz1);(try simp only [heap_drew,World.heap_drewN] at hz1 hc1 hf1);(try have y0:w.heap.size<w1.heap.size:=by omega)))
  go_ret
  exact ⟨rfl,bel⟩
 subst g5
 by_cases g6:dn=dn'
 case neg=>
  obtain rfl:V=false:=by rw [hV];exact zA0 fun h=>g6 h.2.2.2.2.2.2.1
  have t6:(dn==dn')=false:=by simpa using g6
  have u6:(dn !=dn')=true:=by simpa using g6
  clear hV g6
  go_enter Tryz.func73,Tryz.ntmps73
  go_wp2_with (first |(go_at_call 75;(with_reducible refine (SQ.out _ ?_ ?_).mono ?_);(focus (exact HA.out.below (nl _) bel));(focus (exact HB.out.below (nl _) bel));rintro e w1 ⟨rfl,hb1⟩;obtain ⟨hc1,hf1⟩:=zA4 hb1;have hz1:=hb1.size;(try simp at hz1);(try simp only [heap_drew,World.heap_drewN] at hz1 hc1 hf1);(try have y0:w.heap.size<w1.heap.size:=by omega)))
  go_ret
  exact ⟨rfl,bel⟩
 subst g6
 by_cases g7:sc=sc'
 case neg=>
  obtain rfl:V=false:=by rw [hV];exact zA0 fun h=>g7 h.2.2.2.2.2.2.2.1
  have t7:¬sc.toList=sc'.toList:=fun h=>g7 (zC1 h)
  have u7:(sc.toList==sc'.toList)=false:=by simp [t7]
  clear hV g7
  go_enter Tryz.func73,Tryz.ntmps73
  go_wp2_with (first |(go_at_call 75;(with_reducible refine (SQ.out _ ?_ ?_).mono ?_);(focus (exact HA.out.below (nl _) bel));(focus (exact HB.out.below (nl _) bel));rintro e w1 ⟨rfl,hb1⟩;obtain ⟨hc1,hf1⟩:=zA4 hb1;have hz1:=hb1.size;(try simp at hz1);(try simp only [heap_drew,World.heap_drewN] at hz1 hc1 hf1);(try have y0:w.heap.size<w1.heap.size:=by omega)))
  go_ret
  exact ⟨rfl,bel⟩
 subst g7
 by_cases g8:wd=wd'
 case neg=>
  obtain rfl:V=false:=by rw [hV];exact zA0 fun h=>g8 h.2.2.2.2.2.2.2.2.1
  have t8:(wd==wd')=false:=by simpa using g8
  have u8:(wd !=wd')=true:=by simpa using g8
  clear hV g8
  go_enter Tryz.func73,Tryz.ntmps73
  go_wp2_with (first |(go_at_call 75;(with_reducible refine (SQ.out _ ?_ ?_).mono ?_);(focus (exact HA.out.below (nl _) bel));(focus (exact HB.out.below (nl _) bel));rintro e w1 ⟨rfl,hb1⟩;obtain ⟨hc1,hf1⟩:=zA4 hb1;have hz1:=hb1.size;(try simp at hz1);(try simp only [heap_drew,World.heap_drewN] at hz1 hc1 hf1);(try have y0:w.heap.size<w1.heap.size:=by omega)))
  go_ret
  exact ⟨rfl,bel⟩
 subst g8
 by_cases g9:ht=ht'
 case neg=>
  obtain rfl:V=false:=by rw [hV];exact zA0 fun h=>g9 h.2.2.2.2.2.2.2.2.2.1
  have t9:(ht==ht')=false:=by simpa using g9
  have u9:(ht !=ht')=true:=by simpa using g9
  clear hV g9
  go_enter Tryz.func73,Tryz.ntmps73
  go_wp2_with (first |(go_at_call 75;(with_reducible refine (SQ.out _ ?_ ?_).mono ?_);(focus (exact HA.out.below (nl _) bel));(focus (exact HB.out.below (nl _) bel));rintro e w1 ⟨rfl,hb1⟩;obtain ⟨hc1,hf1⟩:=zA4 hb1;have hz1:=hb1.size;(try simp at hz1);(try simp only [heap_drew,World.heap_drewN] at hz1 hc1 hf1);(try have y0:w.heap.size<w1.heap.size:=by omega)))
  go_ret
  exact ⟨rfl,bel⟩
 subst g9
 cases hq:boolOf (tabEq n X Y m X' Y') with
 |false=>
  obtain rfl:V=false:=by rw [hV];exact zA0 fun h=>by have:=zA2 (h.2.2.2.2.2.2.2.2.2.2);rw [hq] at this;cases this
  rw [hq] at SQ
  clear hV hq
  go_enter Tryz.func73,Tryz.ntmps73
  go_wp2_with (first |(go_at_call 75;(with_reducible refine (SQ.out _ ?_ ?_).mono ?_);(focus (exact HA.out.below (nl _) bel));(focus (exact HB.out.below (nl _) bel));rintro e w1 ⟨rfl,hb1⟩;obtain ⟨hc1,hf1⟩:=zA4 hb1;have hz1:=hb1.size;(try simp at hz1);(try simp only [heap_drew,World.heap_drewN] at hz1 hc1 hf1);(try have y0:w.heap.size<w1.heap.size:=by omega)))
  go_ret
  exact ⟨rfl,bel⟩
 |true=>
 have hT:=zJ4 hq
 rw [hq] at SQ
 clear hq
 obtain rfl:V=true:=by rw [hV];exact zA2 ⟨rfl,rfl,rfl,rfl,rfl,rfl,rfl,rfl,rfl,rfl,hT⟩
 clear hV hT
 go_enter Tryz.func73,Tryz.ntmps73
 go_wp2_with (first |(go_at_call 75;(with_reducible refine (SQ.out _ ?_ ?_).mono ?_);(focus (exact HA.out.below (nl _) bel));(focus (exact HB.out.below (nl _) bel));rintro e w1 ⟨rfl,hb1⟩;obtain ⟨hc1,hf1⟩:=zA4 hb1;have hz1:=hb1.size;(try simp at hz1);(try simp only [heap_drew,World.heap_drewN] at hz1 hc1 hf1);(try have y0:w.heap.size<w1.heap.size:=by omega)))
 go_ret
 exact ⟨rfl,bel⟩
def zE6 (D:Nds) (k:Nat):Ndr:=⟨D.Nm k,D.Kd k,D.Ax k,D.Ay k,D.Iv k,D.Gd k,edl (D.SN k) (D.SX k) (D.SY k),D.Pt k,D.Rs k⟩
def zF1 (K:Lks) (k:Nat):Lkr:=⟨K.Nm k,K.Fr k,K.To k,K.Kd k,K.Ln k,K.Up k,K.Dn k,K.Sc k,K.Wd k,K.Ht k,edl (K.CN k) (K.CX k) (K.CY k)⟩
def recN (D:Nds) (n:Nat):List Ndr:=(List.range n).map (zE6 D)
def recL (K:Lks) (m:Nat):List Lkr:=(List.range m).map (zF1 K)
theorem zL3 (D:Nds) (n:Nat):(recN D n).length=n:=by simp [recN]
theorem zL4 (K:Lks) (m:Nat):(recL K m).length=m:=by simp [recL]
theorem recN_succ (D:Nds) (n:Nat):recN D (n+1)=recN D n++[zE6 D n]:=by unfold recN;rw [List.range_succ,List.map_append];rfl
theorem recL_succ (K:Lks) (m:Nat):recL K (m+1)=recL K m++[zF1 K m]:=by unfold recL;rw [List.range_succ,List.map_append];rfl
theorem recN_at {D:Nds} {n k:Nat} (h:k<n):(recN D n).getD k zNd=zE6 D k:=by simp [recN,List.getD,h]
theorem recL_at {K:Lks} {m k:Nat} (h:k<m):(recL K m).getD k zLk=zF1 K k:=by simp [recL,List.getD,h]
theorem edl_eq {n m:Nat} {X Y X' Y':Nat→Int}:edl n X Y=edl m X' Y'↔tabEq n X Y m X' Y':=by
 constructor
 ·intro h
  have hl:n=m:=by have:=congrArg List.length h;rwa [zG9,zG9] at this
  refine ⟨hl,fun k hk=>?_⟩
  have h1:=edl_at (X:=X) (Y:=Y) hk
  have h2:=edl_at (X:=X') (Y:=Y') (show k<m by omega)
  rw [h] at h1
  exact ⟨h1.1.symm.trans h2.1,h1.2.symm.trans h2.2⟩
 ·rintro ⟨rfl,h⟩
  unfold edl
  refine List.map_congr_left fun k hk=>?_
  obtain ⟨a,b⟩:=h k (List.mem_range.1 hk)
  rw [a,b]
theorem edl_self (T:List (Int×Int)):edl T.length (kX T) (kY T)=T:=by
 refine list_of_kk (by rw [zG9]) fun k hk=>?_
 rw [zG9] at hk
 exact edl_at hk
theorem ndrOf_eq {D D':Nds} {i j:Nat}:zE6 D i=zE6 D' j↔ndEq (D.Nm i) (D.Kd i) (D.Ax i) (D.Ay i) (D.Iv i) (D.Gd i) (D.SN i) (D.SX i) (D.SY i) (D.Pt i) (D.Rs i) (D'.Nm j) (D'.Kd j) (D'.Ax j) (D'.Ay j) (D'.Iv j) (D'.Gd j) (D'.SN j) (D'.SX j) (D'.SY j) (D'.Pt j) (D'.Rs j):=by
 unfold zE6 ndEq
 rw [Ndr.mk.injEq,edl_eq]
 constructor
 ·rintro ⟨a,b,c,d,e,f,g,h,i⟩;exact ⟨a,b,c,d,e,f,h,i,g⟩
 ·rintro ⟨a,b,c,d,e,f,h,i,g⟩;exact ⟨a,b,c,d,e,f,g,h,i⟩
theorem lkrOf_eq {K K':Lks} {i j:Nat}:zF1 K i=zF1 K' j↔lkEq (K.Nm i) (K.Fr i) (K.To i) (K.Kd i) (K.Ln i) (K.Up i) (K.Dn i) (K.Sc i) (K.Wd i) (K.Ht i) (K.CN i) (K.CX i) (K.CY i) (K'.Nm j) (K'.Fr j) (K'.To j) (K'.Kd j) (K'.Ln j) (K'.Up j) (K'.Dn j) (K'.Sc j) (K'.Wd j) (K'.Ht j) (K'.CN j) (K'.CX j) (K'.CY j):=by
 unfold zF1 lkEq
 rw [Lkr.mk.injEq,edl_eq]
theorem recN_eq {D D':Nds} {n n':Nat}:recN D n=recN D' n'↔n=n'∧∀i,i<n→zE6 D i=zE6 D' i:=by
 constructor
 ·intro h
  have hl:n=n':=by have:=congrArg List.length h;rwa [zL3,zL3] at this
  refine ⟨hl,fun i hi=>?_⟩
  rw [←recN_at (D:=D) hi,h,recN_at (by omega)]
 ·rintro ⟨rfl,h⟩
  unfold recN
  exact List.map_congr_left fun k hk=>h k (List.mem_range.1 hk)
theorem recL_eq {K K':Lks} {m m':Nat}:recL K m=recL K' m'↔m=m'∧∀i,i<m→zF1 K i=zF1 K' i:=by
 constructor
 ·intro h
  have hl:m=m':=by have:=congrArg List.length h;rwa [zL4,zL4] at this
  refine ⟨hl,fun i hi=>?_⟩
  rw [←recL_at (K:=K) hi,h,recL_at (by omega)]
 ·rintro ⟨rfl,h⟩
  unfold recL
  exact List.map_congr_left fun k hk=>h k (List.mem_range.1 hk)
theorem ndsR_of {N:List Ndr} {SA:Nat→Option Addr} {SC:Nat→Nat} {k:Nat}:zE6 (ndsR N SA SC) k=N.getD k zNd:=by
 unfold zE6 ndsR
 simp only [edl_self]
theorem lksR_of {L:List Lkr} {CA:Nat→Option Addr} {CC:Nat→Nat} {k:Nat}:zF1 (lksR L CA CC) k=L.getD k zLk:=by
 unfold zF1 lksR
 simp only [edl_self]
theorem list_range {α:Type} (L:List α) (z:α):(List.range L.length).map (fun k=>L.getD k z)=L:=by
 apply List.ext_getElem (by simp)
 intro i h1 h2
 simp [List.getD,h2]
theorem ndsR_rec (N:List Ndr) (SA:Nat→Option Addr) (SC:Nat→Nat):recN (ndsR N SA SC) N.length=N:=by
 unfold recN
 rw [show zE6 (ndsR N SA SC)=fun k=>N.getD k zNd from funext fun k=>ndsR_of]
 exact list_range N zNd
theorem lksR_rec (L:List Lkr) (CA:Nat→Option Addr) (CC:Nat→Nat):recL (lksR L CA CC) L.length=L:=by
 unfold recL
 rw [show zF1 (lksR L CA CC)=fun k=>L.getD k zLk from funext fun k=>lksR_of]
 exact list_range L zLk
theorem ndsM_rec (M:List Ndm):recN (ndsM M) M.length=ndx M:=by
 have:=ndsR_rec (ndx M) (fun k=>(M.getD k ⟨zNd,none,0⟩).A) (fun k=>(M.getD k ⟨zNd,none,0⟩).c)
 rwa [show (ndx M).length=M.length by simp [ndx]] at this
theorem lksM_rec (M:List Lkm):recL (lksM M) M.length=lkx M:=by
 have:=lksR_rec (lkx M) (fun k=>(M.getD k ⟨zLk,none,0⟩).A) (fun k=>(M.getD k ⟨zLk,none,0⟩).c)
 rwa [show (lkx M).length=M.length by simp [lkx]] at this
def netS (D:Nds) (n:Nat) (K:Lks) (m:Nat) (D':Nds) (n':Nat) (K':Lks) (m':Nat):Prop:=recN D n=recN D' n'∧recL K m=recL K' m'
theorem fnd_eq {X X':Nat→ByteArray} {n:Nat} (h:∀i,i<n→X i=X' i) (s:ByteArray):fnd X n s=fnd X' n s:=by
 obtain ⟨k,hk,e⟩:=zJ1 X' n s
 rw [e]
 refine fnd_at ⟨hk.1,fun j hj=>?_,fun hkn=>?_⟩
 ·have:=hk.2.1 j hj
  have hkl:=hk.1
  show decide (X j=s)=false
  rw [h j (by omega)];exact this
 ·have:=hk.2.2 hkn
  show decide (X k=s)=true
  rw [h k hkn];exact this
theorem tabOK_eq {n:Nat} {X Y X' Y':Nat→Int} (h:∀k,k<n→X k=X' k∧Y k=Y' k) (ht:TabOK n X Y):TabOK n X' Y':=by
 refine ⟨ht.1,ht.2.1,fun k hk=>?_⟩
 have:=ht.2.2 k hk
 unfold zG6 at*
 rw [(h k hk).1,(h k hk).2] at this
 refine ⟨this.1,this.2.1,fun h0=>?_⟩
 have h3:=this.2.2 h0
 rw [(h (k - 1) (by omega)).1,(h (k - 1) (by omega)).2] at h3
 exact h3
theorem curveOK_eq {n:Nat} {X Y X' Y':Nat→Int} {a b:Int} (h:∀k,k<n→X k=X' k∧Y k=Y' k) (ht:CurveOK n X Y a b):CurveOK n X' Y' a b:=by
 obtain ⟨h1,h2,h3,h4,h5⟩:=ht
 have hn:=h1.1
 refine ⟨tabOK_eq h h1,?_,?_,?_,?_⟩
 ·rw [←(h 0 (by omega)).1];exact h2
 ·rw [←(h 0 (by omega)).2];exact h3
 ·rw [←(h (n - 1) (by omega)).1];exact h4
 ·rw [←(h (n - 1) (by omega)).2];exact h5
theorem ndP_eq {D D':Nds} {i j:Nat} (h:zE6 D i=zE6 D' j) (hp:ndP D i):ndP D' j:=by
 obtain ⟨e1,e2,e3,e4,e5,e6,e7,e8,e9,e10⟩:=ndrOf_eq.1 h
 unfold ndP at*
 rw [e1,e2,e3,e4,e5,e6,e7,e8,e9] at hp
 refine ⟨hp.1,hp.2.1,hp.2.2.1,hp.2.2.2.1,?_⟩
 rw [e9] at e10
 rcases hp.2.2.2.2 with h1 |⟨h1,h2,h3,h4⟩
 ·exact .inl h1
 ·refine .inr ⟨h1,h2,curveOK_eq e10 h3,?_⟩
  have hn:=h3.1.1
  rcases h4 with h4 |⟨a,b,c,d⟩
  ·exact .inl h4
  ·exact .inr ⟨a,b,c,by rw [←(e10 (D'.SN j - 1) (by omega)).2];exact d⟩
theorem lkP_eq {K K':Lks} {i j:Nat} (h:zF1 K i=zF1 K' j) (hp:lkP K i):lkP K' j:=by
 obtain ⟨e1,e2,e3,e4,e5,e6,e7,e8,e9,e10,e11,e12⟩:=lkrOf_eq.1 h
 unfold lkP at*
 rw [e1,e2,e3,e4,e5,e6,e7,e8,e9,e10,e11] at hp
 rw [e11] at e12
 refine ⟨hp.1,hp.2.1,hp.2.2.1,hp.2.2.2.1,hp.2.2.2.2.1,hp.2.2.2.2.2.1,?_⟩
 rcases hp.2.2.2.2.2.2 with h1 |h1 |h1 |⟨h1,h2,h3,h4,h5,h6,h7⟩
 ·exact .inl h1
 ·exact .inr (.inl h1)
 ·exact .inr (.inr (.inl h1))
 ·refine .inr (.inr (.inr ⟨h1,h2,h3,h4,h5,h6,tabOK_eq e12 h7.1,fun k hk=>?_⟩))
  rw [←(e12 k hk).1,←(e12 k hk).2]
  exact h7.2 k hk
theorem nm_of {D D':Nds} {i j:Nat} (h:zE6 D i=zE6 D' j):D.Nm i=D'.Nm j:=(ndrOf_eq.1 h).1
theorem netP_eq {D D':Nds} {K K':Lks} {n n' m m':Nat} (h:netS D n K m D' n' K' m') (hp:netP D n K m):netP D' n' K' m':=by
 obtain ⟨h1,h2⟩:=h
 obtain ⟨rfl,hN⟩:=recN_eq.1 h1
 obtain ⟨rfl,hL⟩:=recL_eq.1 h2
 have fN:∀s,fnd D.Nm n s=fnd D'.Nm n s:=fnd_eq fun i hi=>nm_of (hN i hi)
 have fL:∀s,fnd K.Nm m s=fnd K'.Nm m s:=fnd_eq fun i hi=>(lkrOf_eq.1 (hL i hi)).1
 refine ⟨hp.1,hp.2.1,fun i hi=>?_,fun i hi=>?_⟩
 ·obtain ⟨a,b⟩:=hp.2.2.1 i hi
  refine ⟨ndP_eq (hN i hi) a,?_⟩
  rw [←fN,←nm_of (hN i hi)];exact b
 ·obtain ⟨a,b,c,d,e⟩:=hp.2.2.2 i hi
  obtain ⟨e1,e2,e3,_⟩:=lkrOf_eq.1 (hL i hi)
  refine ⟨lkP_eq (hL i hi) a,?_,?_,?_,?_⟩
  ·rw [←fL,←e1];exact b
  ·rw [←fN,←e2];exact c
  ·rw [←fN,←e3];exact d
  ·rw [←fN,←e2]
   have hq:=fnd_bd D.Nm n (K.Fr i)
   rcases hq with hq |⟨k,hk,hq,_⟩
   ·omega
   ·rw [hq,Int.toNat_natCast] at e⊢
    rw [←(ndrOf_eq.1 (hN k hk)).2.1]
    exact e
end Go.Proofs.YtghefgifhebniaaGreatDoor

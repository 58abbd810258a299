/- Merged texts of these proofs: NetH, NetS, NetT. -/
import Derived.Test.YtghefgifhebniaaGreatDoorMgP
namespace Go.Proofs.YtghefgifhebniaaGreatDoor
open Go.RowKit
set_option linter.unusedVariables false
set_option linter.unusedSimpArgs false
theorem zH9 (z lo hi:Int) (w:World):Calls Tryz.prog 108 #[.int .i64 z,.int .i64 lo,.int .i64 hi] w fun e w'=>e= .returned (.bool (decide (lo≤z∧z≤hi)))∧w=w':=by
 by_cases h1:lo≤z
 ·have t1:decide (lo≤z)=true:=dT h1
  by_cases h2:z≤hi
  ·have t2:decide (z≤hi)=true:=dT h2
   rw [dT (show lo≤z∧z≤hi from ⟨h1,h2⟩)]
   clear h1 h2
   go_enter Tryz.func108,Tryz.ntmps108
   go_wp2_with fail
   go_ret
   exact ⟨rfl,rfl⟩
  ·have t2:decide (z≤hi)=false:=dF h2
   rw [dF (show¬(lo≤z∧z≤hi) from fun h=>h2 h.2)]
   clear h1 h2
   go_enter Tryz.func108,Tryz.ntmps108
   go_wp2_with fail
   go_ret
   exact ⟨rfl,rfl⟩
 ·have t1:decide (lo≤z)=false:=dF h1
  rw [dF (show¬(lo≤z∧z≤hi) from fun h=>h1 h.1)]
  clear h1
  go_enter Tryz.func108,Tryz.ntmps108
  go_wp2_with fail
  go_ret
  exact ⟨rfl,rfl⟩
theorem p_lvl (z:Int) (f:Bool) (hf:f=decide (¬lvP z)) (w:World):Calls Tryz.prog 150 #[.int .i64 z] w fun e w'=>e= .returned (.bool f)∧Below w.heap.size w w':=by
 subst hf
 by_cases h1:z< -4194304
 ·have t1:decide (z< -4194304)=true:=dT h1
  rw [dT (show¬lvP z by unfold lvP;omega)]
  clear h1
  go_enter Tryz.func150,Tryz.ntmps150
  go_wp2_with fail
  go_ret
  exact ⟨rfl,bel⟩
 ·have t1:decide (z< -4194304)=false:=dF h1
  by_cases h2:4194304<z
  ·have t2:decide (4194304<z)=true:=dT h2
   rw [dT (show¬lvP z by unfold lvP;omega)]
   clear h1 h2
   go_enter Tryz.func150,Tryz.ntmps150
   go_wp2_with fail
   go_ret
   exact ⟨rfl,bel⟩
  ·have t2:decide (4194304<z)=false:=dF h2
   rw [dF (show¬¬lvP z by unfold lvP;omega)]
   clear h1 h2
   go_enter Tryz.func150,Tryz.ntmps150
   go_wp2_with fail
   go_ret
   exact ⟨rfl,bel⟩
set_option maxRecDepth 100000 in
set_option maxHeartbeats 2000000 in
theorem find_lvl (A:Option Addr) (n c k:Nat) (C:Nat→Int) (w:World) (h2:n≤2000) (ht:IntIn w A n C) (hk:FirstAt (fun j=>decide (¬lvP (C j))) n k) (v:Int) (hv:v=if k<n then (k:Int) else -1):
 Calls Tryz.prog 138 #[.slice A n c,.func (.func 150) #[] #[]] w fun e w'=>e= .returned (.int .i64 v)∧Below w.heap.size w w':=by
 have HT:=LH ht
 have HK:=LH hk
 have H2:=LH h2
 have HV:=LH hv
 clear ht hk h2 hv
 go_enter Tryz.func138,Tryz.ntmps138
 go_wp2_with fail
 go_loopw [8] (fun u wr=>∃i:Nat,Hid (i≤n∧i≤k)∧u= .int .i64 i∧Hid (Below w.heap.size w wr)) (fun u _=>n - (RowKit.intOf u).toNat)
 case atStart=>exact ⟨0,⟨Nat.zero_le _,Nat.zero_le _⟩,rfl,bR _ _⟩
 case round=>
  obtain ⟨i,Hi,rfl,HW⟩:=hrel
  by_cases hlt:i<n
  ·have T0:decide ((i:Int)<(n:Int))=true:=by simp<;> omega
   have T0':decide (i<n)=true:=dT hlt
   obtain ⟨i',hi'⟩:∃z,z=i+1:=⟨_,rfl⟩
   have x0:IntKind.i64.wrap ((i:Int)+1)=(i':Int):=by have:=H2.out;rw [IntKind.wrap_i64];omega
   obtain ⟨b,off,rfl,hb,c0⟩:=(HT.out.below (nl _) HW.out).at hlt
   have k0:(0:Int)≤(i:Int):=by omega
   have k1:(i:Int)<(n:Int):=by omega
   have HMS:Hid (n - (RowKit.intOf (Value.int .i64 (i':Int))).toNat<n - (RowKit.intOf (Value.int .i64 (i:Int))).toNat):=by show _<_;simp [RowKit.intOf];omega
   rcases zI1 HK.out hlt Hi.out.2 with ⟨hp,hik⟩|⟨hp,hik⟩
   ·have KK:=LH fun w=>(p_lvl (C i) true hp.symm w)
    have HR:Hid ((i:Int)=v):=by show (i:Int)=v;rw [HV.out,hik,if_pos (by omega)]
    clear hi' hp hik
    go_wp2_with (first |(go_at_call 150;(with_reducible refine (KK.out _).mono ?_);rintro e w1 ⟨rfl,hb1⟩;obtain ⟨hc1,hf1⟩:=zA4 hb1;have hz1:=hb1.size;(try simp at hz1);(try simp only [heap_drew,World.heap_drewN] at hz1 hc1 hf1);(try have y0:w.heap.size<w1.heap.size:=by omega)))
    go_ret
    refine ⟨zE1 HR.out,?_⟩
    have:=HW.out
    exact bel
   ·have KK:=LH fun w=>(p_lvl (C i) false hp.symm w)
    have HI':Hid (i'≤n∧i'≤k):=by show _∧_;omega
    clear hi' hp hik
    go_wp2_with (first |(go_at_call 150;(with_reducible refine (KK.out _).mono ?_);rintro e w1 ⟨rfl,hb1⟩;obtain ⟨hc1,hf1⟩:=zA4 hb1;have hz1:=hb1.size;(try simp at hz1);(try simp only [heap_drew,World.heap_drewN] at hz1 hc1 hf1);(try have y0:w.heap.size<w1.heap.size:=by omega)))
    go_roundw
    case rel=>exact ⟨i',HI',rfl,by have:=HW.out;exact bel⟩
    case measure=>exact HMS.out
  ·have e:i=n:=by have:=Hi.out;omega
   have HR:Hid ((-1:Int)=v):=by show (-1:Int)=v;rw [HV.out,if_neg (by have:=Hi.out;omega)]
   have T0:decide ((i:Int)<(n:Int))=false:=by simp<;> omega
   have T0':decide (i<n)=false:=dF hlt
   clear e hlt
   go_wp2_with fail
   go_ret
   exact ⟨zE1 HR.out,HW.out⟩
theorem has_lvl (A:Option Addr) (n c:Nat) (C:Nat→Int) (w:World) (h2:n≤2000) (ht:IntIn w A n C) (f:Bool) (hf:f=true↔∃j,j<n∧(fun j=>decide (¬lvP (C j))) j=true):
 Calls Tryz.prog 145 #[.slice A n c,.func (.func 150) #[] #[]] w fun e w'=>e= .returned (.bool f)∧Below w.heap.size w w':=by
 obtain ⟨k,hk⟩:=first_ex (fun j=>decide (¬lvP (C j))) n
 have hany:=first_any hk
 have S:=LH (find_lvl A n c k C w h2 ht hk _ rfl)
 by_cases hkn:k<n
 ·have hft:f=true:=hf.2 (hany.1 hkn)
  rw [if_pos hkn] at S
  have t:decide ((0:Int)≤(k:Int))=true:=dT (by omega)
  subst hft
  clear hk hany hkn hf ht h2
  go_enter Tryz.func145,Tryz.ntmps145
  go_wp2_with (first |(go_at_call 138;(with_reducible refine (S.out).mono ?_);rintro e w1 ⟨rfl,hb1⟩;obtain ⟨hc1,hf1⟩:=zA4 hb1;have hz1:=hb1.size;(try simp at hz1);(try simp only [heap_drew,World.heap_drewN] at hz1 hc1 hf1);(try have y0:w.heap.size<w1.heap.size:=by omega)))
  go_ret
  refine ⟨rfl,?_⟩
  exact bel
 ·have hft:f=false:=by
   cases f with
   |false=>rfl
   |true=>exact absurd (hany.2 (hf.1 rfl)) hkn
  rw [if_neg hkn] at S
  subst hft
  clear hk hany hkn hf ht h2
  go_enter Tryz.func145,Tryz.ntmps145
  go_wp2_with (first |(go_at_call 138;(with_reducible refine (S.out).mono ?_);rintro e w1 ⟨rfl,hb1⟩;obtain ⟨hc1,hf1⟩:=zA4 hb1;have hz1:=hb1.size;(try simp at hz1);(try simp only [heap_drew,World.heap_drewN] at hz1 hc1 hf1);(try have y0:w.heap.size<w1.heap.size:=by omega)))
  go_ret
  refine ⟨rfl,?_⟩
  exact bel
theorem nlevel (A:Option Addr) (n c:Nat) (C:Nat→Int) (h2:n≤2000) (f:Bool) (hf:f=true↔∀j,j<n→lvP (C j)) (w:World) (ht:IntIn w A n C):
 Calls Tryz.prog 109 #[.slice A n c] w fun e w'=>e= .returned (.bool f)∧Below w.heap.size w w':=by
 have S:=LH (has_lvl A n c C w h2 ht (!f) (by
  cases f with
  |true=>exact ⟨fun h=>(by cases h),fun ⟨j,hj,h⟩=>absurd ((hf.1 rfl) j hj) (of_decide_eq_true h)⟩
  |false=>
   refine ⟨fun _=>?_,fun _=>rfl⟩
   refine Classical.byContradiction fun hn=>?_
   have:(false:Bool)=true:=hf.2 fun j hj=>Classical.byContradiction fun h=>hn ⟨j,hj,dT h⟩
   cases this))
 clear hf ht h2
 cases f
 all_goals
  go_enter Tryz.func109,Tryz.ntmps109
  go_wp2_with (first |(go_at_call 145;(with_reducible refine (S.out).mono ?_);rintro e w1 ⟨rfl,hb1⟩;obtain ⟨hc1,hf1⟩:=zA4 hb1;have hz1:=hb1.size;(try simp at hz1);(try simp only [heap_drew,World.heap_drewN] at hz1 hc1 hf1);(try have y0:w.heap.size<w1.heap.size:=by omega)))
  go_ret
  refine ⟨rfl,?_⟩
  exact bel
set_option maxHeartbeats 1000000 in
theorem nshaped (A:Option Addr) (n c:Nat) (X Y:Nat→Int) (h:Int) (w:World) (ht:TabIn w A n X Y):
 Calls Tryz.prog 110 #[.slice A n c,.int .i64 h] w fun e w'=>e= .returned (.bool (boolOf (CurveOK n X Y h 1125899906842624)))∧Below w.heap.size w w':=by
 have C:=LH fun w ht=>tvalid_any A n c X Y w ht
 obtain ⟨f,hf⟩:∃f,Hid (f=boolOf (CurveOK n X Y h 1125899906842624)):=⟨_,rfl⟩
 rw [←hf.out]
 by_cases hv:TabOK n X Y
 ·rcases ht.2 with h0 |⟨b,off,rfl,hT⟩
  ·exact absurd hv.1 (by omega)
  ·have HT:=LH ht
   obtain ⟨m,rfl⟩:∃m,n=m+1:=⟨n - 1,by have:=hv.1;omega⟩
   have hb:=hT.1
   have f0:=(hT.2 0 (by omega)).1
   have f1:=(hT.2 0 (by omega)).2
   have l0:=(hT.2 m (by omega)).1
   have l1:=(hT.2 m (by omega)).2
   have e2:IntKind.i64.wrap ((m:Int)+1 - 1)=(m:Int):=by rw [IntKind.wrap_i64];have:=hv.2.1;omega
   have e3:IntKind.i64.wrap (m:Int)=(m:Int):=by rw [IntKind.wrap_i64];have:=hv.2.1;omega
   have tv:=zF8 hv
   simp only [Nat.zero_mul,Nat.add_zero] at f0 f1
   clear ht hT
   go_enter Tryz.func110,Tryz.ntmps110
   go_wp2_with (first |(go_at_call 112;(with_reducible refine (C.out _ HT.out).mono ?_);rintro e w1 ⟨rfl,hb1⟩;obtain ⟨hc1,hf1⟩:=zA4 hb1;have hz1:=hb1.size;(try simp at hz1);(try simp only [heap_drew,World.heap_drewN] at hz1 hc1 hf1);(try have y0:w.heap.size<w1.heap.size:=by omega);(try have yb:b<w1.heap.size:=by omega)))
   all_goals (go_ret;refine ⟨zC0 (by rw [hf.out];exact boolOf_eq (by simp [CurveOK, *])),?_⟩;exact bel)
 ·obtain rfl:f=false:=by rw [hf.out];exact zA0 fun h=>hv h.1
  have tv:=zE9 hv
  have HT:=LH ht
  clear ht
  go_enter Tryz.func110,Tryz.ntmps110
  go_wp2_with (first |(go_at_call 112;(with_reducible refine (C.out _ HT.out).mono ?_);rintro e w1 ⟨rfl,hb1⟩;obtain ⟨hc1,hf1⟩:=zA4 hb1;have hz1:=hb1.size;(try simp at hz1);(try simp only [heap_drew,World.heap_drewN] at hz1 hc1 hf1);(try have y0:w.heap.size<w1.heap.size:=by omega)))
  go_ret
  refine ⟨rfl,?_⟩
  exact bel
theorem rposit (z:Int) (w:World):Calls Tryz.prog 99 #[.int .i64 z] w fun e w'=>e= .returned (.bool (decide (poP z)))∧w=w':=by
 by_cases h1: -16777216≤z
 ·have t1:decide (-16777216≤z)=true:=dT h1
  by_cases h2:z≤16777216
  ·have t2:decide (z≤16777216)=true:=dT h2
   rw [dT (show poP z from ⟨h1,h2⟩)]
   clear h1 h2
   go_enter Tryz.func99,Tryz.ntmps99
   go_wp2_with fail
   go_ret
   exact ⟨rfl,rfl⟩
  ·have t2:decide (z≤16777216)=false:=dF h2
   rw [dF (show¬(poP z) from fun h=>h2 h.2)]
   clear h1 h2
   go_enter Tryz.func99,Tryz.ntmps99
   go_wp2_with fail
   go_ret
   exact ⟨rfl,rfl⟩
 ·have t1:decide (-16777216≤z)=false:=dF h1
  rw [dF (show¬(poP z) from fun h=>h1 h.1)]
  clear h1
  go_enter Tryz.func99,Tryz.ntmps99
  go_wp2_with fail
  go_ret
  exact ⟨rfl,rfl⟩
theorem rlev (z:Int) (w:World):Calls Tryz.prog 100 #[.int .i64 z] w fun e w'=>e= .returned (.bool (decide (lvP z)))∧w=w':=by
 by_cases h1: -4194304≤z
 ·have t1:decide (-4194304≤z)=true:=dT h1
  by_cases h2:z≤4194304
  ·have t2:decide (z≤4194304)=true:=dT h2
   rw [dT (show lvP z from ⟨h1,h2⟩)]
   clear h1 h2
   go_enter Tryz.func100,Tryz.ntmps100
   go_wp2_with fail
   go_ret
   exact ⟨rfl,rfl⟩
  ·have t2:decide (z≤4194304)=false:=dF h2
   rw [dF (show¬(lvP z) from fun h=>h2 h.2)]
   clear h1 h2
   go_enter Tryz.func100,Tryz.ntmps100
   go_wp2_with fail
   go_ret
   exact ⟨rfl,rfl⟩
 ·have t1:decide (-4194304≤z)=false:=dF h1
  rw [dF (show¬(lvP z) from fun h=>h1 h.1)]
  clear h1
  go_enter Tryz.func100,Tryz.ntmps100
  go_wp2_with fail
  go_ret
  exact ⟨rfl,rfl⟩
theorem rwithin (z m:Int) (w:World):Calls Tryz.prog 102 #[.int .i64 z,.int .i64 m] w fun e w'=>e= .returned (.bool (decide (1≤z∧z≤m)))∧w=w':=by
 by_cases h1:1≤z
 ·have t1:decide (1≤z)=true:=dT h1
  by_cases h2:z≤m
  ·have t2:decide (z≤m)=true:=dT h2
   rw [dT (show 1≤z∧z≤m from ⟨h1,h2⟩)]
   clear h1 h2
   go_enter Tryz.func102,Tryz.ntmps102
   go_wp2_with fail
   go_ret
   exact ⟨rfl,rfl⟩
  ·have t2:decide (z≤m)=false:=dF h2
   rw [dF (show¬(1≤z∧z≤m) from fun h=>h2 h.2)]
   clear h1 h2
   go_enter Tryz.func102,Tryz.ntmps102
   go_wp2_with fail
   go_ret
   exact ⟨rfl,rfl⟩
 ·have t1:decide (1≤z)=false:=dF h1
  rw [dF (show¬(1≤z∧z≤m) from fun h=>h1 h.1)]
  clear h1
  go_enter Tryz.func102,Tryz.ntmps102
  go_wp2_with fail
  go_ret
  exact ⟨rfl,rfl⟩
set_option maxHeartbeats 1000000 in
theorem rshape (A:Option Addr) (n c:Nat) (X Y:Nat→Int) (h:Int) (w:World) (ht:TabIn w A n X Y):
 Calls Tryz.prog 101 #[.slice A n c,.int .i64 h] w fun e w'=>e= .returned (.bool (boolOf (CurveOK n X Y h 1125899906842624)))∧Below w.heap.size w w':=by
 have C:=LH fun w ht=>zK3 A n c X Y w ht
 obtain ⟨f,hf⟩:∃f,Hid (f=boolOf (CurveOK n X Y h 1125899906842624)):=⟨_,rfl⟩
 rw [←hf.out]
 by_cases hv:TabOK n X Y
 ·rcases ht.2 with h0 |⟨b,off,rfl,hT⟩
  ·exact absurd hv.1 (by omega)
  ·have HT:=LH ht
   obtain ⟨m,rfl⟩:∃m,n=m+1:=⟨n - 1,by have:=hv.1;omega⟩
   have hb:=hT.1
   have f0:=(hT.2 0 (by omega)).1
   have f1:=(hT.2 0 (by omega)).2
   have l0:=(hT.2 m (by omega)).1
   have l1:=(hT.2 m (by omega)).2
   have e2:IntKind.i64.wrap ((m:Int)+1 - 1)=(m:Int):=by rw [IntKind.wrap_i64];have:=hv.2.1;omega
   have e3:IntKind.i64.wrap (m:Int)=(m:Int):=by rw [IntKind.wrap_i64];have:=hv.2.1;omega
   have tv:=zF8 hv
   simp only [Nat.zero_mul,Nat.add_zero] at f0 f1
   clear ht hT
   go_enter Tryz.func101,Tryz.ntmps101
   go_wp2_with (first |(go_at_call 144;(with_reducible refine (C.out _ HT.out).mono ?_);rintro e w1 ⟨rfl,hb1⟩;obtain ⟨hc1,hf1⟩:=zA4 hb1;have hz1:=hb1.size;(try simp at hz1);(try simp only [heap_drew,World.heap_drewN] at hz1 hc1 hf1);(try have y0:w.heap.size<w1.heap.size:=by omega);(try have yb:b<w1.heap.size:=by omega)))
   all_goals (go_ret;refine ⟨zC0 (by rw [hf.out];exact boolOf_eq (by simp [CurveOK, *])),?_⟩;exact bel)
 ·obtain rfl:f=false:=by rw [hf.out];exact zA0 fun h=>hv h.1
  have tv:=zE9 hv
  have HT:=LH ht
  clear ht
  go_enter Tryz.func101,Tryz.ntmps101
  go_wp2_with (first |(go_at_call 144;(with_reducible refine (C.out _ HT.out).mono ?_);rintro e w1 ⟨rfl,hb1⟩;obtain ⟨hc1,hf1⟩:=zA4 hb1;have hz1:=hb1.size;(try simp at hz1);(try simp only [heap_drew,World.heap_drewN] at hz1 hc1 hf1);(try have y0:w.heap.size<w1.heap.size:=by omega)))
  go_ret
  refine ⟨rfl,?_⟩
  exact bel
theorem tab_mono {n:Nat} {X Y:Nat→Int} (h:TabOK n X Y):∀j,j<n→∀i,i≤j→X i≤X j∧Y i≤Y j
 |0,_,i,hi=>by
  obtain rfl:i=0:=by omega
  exact ⟨Int.le_refl _,Int.le_refl _⟩
 |j+1,hj,i,hi=>by
  rcases Nat.lt_or_ge i (j+1) with g |g
  ·obtain ⟨a,b⟩:=tab_mono h j (by omega) i (by omega)
   obtain ⟨_,_,h3⟩:=h.2.2 (j+1) hj
   have h4:=h3 (by omega)
   have e:j+1 - 1=j:=by omega
   rw [e] at h4
   exact ⟨by omega,by omega⟩
  ·obtain rfl:i=j+1:=by omega
   exact ⟨Int.le_refl _,Int.le_refl _⟩
def endsP (n:Nat) (X Y:Nat→Int):Prop:=0≤X 0∧X (n - 1)≤4194304∧0≤Y 0∧Y (n - 1)≤1099511627776
theorem pump_ends {n:Nat} {X Y:Nat→Int} (h:TabOK n X Y):pumpP n X Y↔endsP n X Y:=by
 have hn:=h.1
 unfold pumpP endsP
 constructor
 ·rintro ⟨_,h2⟩
  have a:=h2 0 (by omega)
  have b:=h2 (n - 1) (by omega)
  omega
 ·intro h2
  refine ⟨h,fun k hk=>?_⟩
  have a:=tab_mono h k hk 0 (by omega)
  have b:=tab_mono h (n - 1) (by omega) k (by omega)
  omega
set_option maxHeartbeats 2000000 in
theorem rcurve (A:Option Addr) (n c:Nat) (X Y:Nat→Int) (w:World) (ht:TabIn w A n X Y):
 Calls Tryz.prog 103 #[.slice A n c] w fun e w'=>e= .returned (.bool (boolOf (pumpP n X Y)))∧Below w.heap.size w w':=by
 have C:=LH fun w ht=>zK3 A n c X Y w ht
 obtain ⟨f,hf⟩:∃f,Hid (f=boolOf (pumpP n X Y)):=⟨_,rfl⟩
 rw [←hf.out]
 by_cases hv:TabOK n X Y
 ·rcases ht.2 with h0 |⟨b,off,rfl,hT⟩
  ·exact absurd hv.1 (by omega)
  ·have HT:=LH ht
   have HE:=LH (pump_ends hv)
   obtain ⟨m,rfl⟩:∃m,n=m+1:=⟨n - 1,by have:=hv.1;omega⟩
   have hb:=hT.1
   have f0:=(hT.2 0 (by omega)).1
   have f1:=(hT.2 0 (by omega)).2
   have l0:=(hT.2 m (by omega)).1
   have l1:=(hT.2 m (by omega)).2
   have e2:IntKind.i64.wrap ((m:Int)+1 - 1)=(m:Int):=by rw [IntKind.wrap_i64];have:=hv.2.1;omega
   have e3:IntKind.i64.wrap (m:Int)=(m:Int):=by rw [IntKind.wrap_i64];have:=hv.2.1;omega
   have tv:=zF8 hv
   simp only [Nat.zero_mul,Nat.add_zero] at f0 f1
   obtain ⟨x0,hx0⟩:∃z,z=X 0:=⟨_,rfl⟩
   obtain ⟨x1,hx1⟩:∃z,z=X m:=⟨_,rfl⟩
   obtain ⟨y0,hy0⟩:∃z,z=Y 0:=⟨_,rfl⟩
   obtain ⟨y1,hy1⟩:∃z,z=Y m:=⟨_,rfl⟩
   have HEE:Hid (pumpP (m+1) X Y↔(0≤x0∧x1≤4194304∧0≤y0∧y1≤1099511627776)):=by rw [hx0,hx1,hy0,hy1];exact HE.out
   rw [←hx0] at f0
   rw [←hx1] at l0
   rw [←hy0] at f1
   rw [←hy1] at l1
   clear ht hT hx0 hx1 hy0 hy1 HE hv
   by_cases g0:0≤x0
   case neg=>
        have t0:decide (0≤x0)=false:=dF g0
        obtain rfl:f=false:=by rw [hf.out];exact zA0 fun h=>g0 (by have h:=HEE.out.1 h;exact h.1)
        clear hf g0
        go_enter Tryz.func103,Tryz.ntmps103
        go_wp2_with (first |(go_at_call 144;(with_reducible refine (C.out _ HT.out).mono ?_);rintro e w1 ⟨rfl,hb1⟩;obtain ⟨hc1,hf1⟩:=zA4 hb1;have hz1:=hb1.size;(try simp at hz1);(try simp only [heap_drew,World.heap_drewN] at hz1 hc1 hf1);(try have y0:w.heap.size<w1.heap.size:=by omega);(try have yb:b<w1.heap.size:=by omega)))
        go_ret
        refine ⟨rfl,?_⟩
        exact bel
   have t0:decide (0≤x0)=true:=dT g0
   by_cases g1:x1≤4194304
   case neg=>
        have t1:decide (x1≤4194304)=false:=dF g1
        obtain rfl:f=false:=by rw [hf.out];exact zA0 fun h=>g1 (by have h:=HEE.out.1 h;exact h.2.1)
        clear hf g0 g1
        go_enter Tryz.func103,Tryz.ntmps103
        go_wp2_with (first |(go_at_call 144;(with_reducible refine (C.out _ HT.out).mono ?_);rintro e w1 ⟨rfl,hb1⟩;obtain ⟨hc1,hf1⟩:=zA4 hb1;have hz1:=hb1.size;(try simp at hz1);(try simp only [heap_drew,World.heap_drewN] at hz1 hc1 hf1);(try have y0:w.heap.size<w1.heap.size:=by omega);(try have yb:b<w1.heap.size:=by omega)))
        go_ret
        refine ⟨rfl,?_⟩
        exact bel
   have t1:decide (x1≤4194304)=true:=dT g1
   by_cases g2:0≤y0
   case neg=>
        have t2:decide (0≤y0)=false:=dF g2
        obtain rfl:f=false:=by rw [hf.out];exact zA0 fun h=>g2 (by have h:=HEE.out.1 h;exact h.2.2.1)
        clear hf g0 g1 g2
        go_enter Tryz.func103,Tryz.ntmps103
        go_wp2_with (first |(go_at_call 144;(with_reducible refine (C.out _ HT.out).mono ?_);rintro e w1 ⟨rfl,hb1⟩;obtain ⟨hc1,hf1⟩:=zA4 hb1;have hz1:=hb1.size;(try simp at hz1);(try simp only [heap_drew,World.heap_drewN] at hz1 hc1 hf1);(try have y0:w.heap.size<w1.heap.size:=by omega);(try have yb:b<w1.heap.size:=by omega)))
        go_ret
        refine ⟨rfl,?_⟩
        exact bel
   have t2:decide (0≤y0)=true:=dT g2
   by_cases g3:y1≤1099511627776
   case neg=>
        have t3:decide (y1≤1099511627776)=false:=dF g3
        obtain rfl:f=false:=by rw [hf.out];exact zA0 fun h=>g3 (by have h:=HEE.out.1 h;exact h.2.2.2)
        clear hf g0 g1 g2 g3
        go_enter Tryz.func103,Tryz.ntmps103
        go_wp2_with (first |(go_at_call 144;(with_reducible refine (C.out _ HT.out).mono ?_);rintro e w1 ⟨rfl,hb1⟩;obtain ⟨hc1,hf1⟩:=zA4 hb1;have hz1:=hb1.size;(try simp at hz1);(try simp only [heap_drew,World.heap_drewN] at hz1 hc1 hf1);(try have y0:w.heap.size<w1.heap.size:=by omega);(try have yb:b<w1.heap.size:=by omega)))
        go_ret
        refine ⟨rfl,?_⟩
        exact bel
   have t3:decide (y1≤1099511627776)=true:=dT g3
   obtain rfl:f=true:=by rw [hf.out];exact zA2 (HEE.out.2 ⟨g0,g1,g2,g3⟩)
   clear hf g0 g1 g2 g3
   go_enter Tryz.func103,Tryz.ntmps103
   go_wp2_with (first |(go_at_call 144;(with_reducible refine (C.out _ HT.out).mono ?_);rintro e w1 ⟨rfl,hb1⟩;obtain ⟨hc1,hf1⟩:=zA4 hb1;have hz1:=hb1.size;(try simp at hz1);(try simp only [heap_drew,World.heap_drewN] at hz1 hc1 hf1);(try have y0:w.heap.size<w1.heap.size:=by omega);(try have yb:b<w1.heap.size:=by omega)))
   go_ret
   refine ⟨rfl,?_⟩
   exact bel
 ·obtain rfl:f=false:=by rw [hf.out];exact zA0 fun h=>hv h.1
  have tv:=zE9 hv
  have HT:=LH ht
  clear ht
  go_enter Tryz.func103,Tryz.ntmps103
  go_wp2_with (first |(go_at_call 144;(with_reducible refine (C.out _ HT.out).mono ?_);rintro e w1 ⟨rfl,hb1⟩;obtain ⟨hc1,hf1⟩:=zA4 hb1;have hz1:=hb1.size;(try simp at hz1);(try simp only [heap_drew,World.heap_drewN] at hz1 hc1 hf1);(try have y0:w.heap.size<w1.heap.size:=by omega)))
  go_ret
  refine ⟨rfl,?_⟩
  exact bel
end Go.Proofs.YtghefgifhebniaaGreatDoor

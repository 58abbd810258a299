/- Merged texts of these proofs: NetH, NetS, NetT, NetM. -/
import Derived.Test.YtchakniaoeodmaaGreatDoorMgP
namespace Go.Proofs.YtchakniaoeodmaaGreatDoor
open Go.RowKit
set_option linter.unusedVariables false
set_option linter.unusedSimpArgs false
theorem zI6 (z lo hi:Int) (w:World):Calls Tryz.prog 152 #[.int .i64 z,.int .i64 lo,.int .i64 hi] w fun e w'=>e= .returned (.bool (decide (lo≤z∧z≤hi)))∧w=w':=by
 by_cases h1:lo≤z
 ·have t1:decide (lo≤z)=true:=dU h1
  by_cases h2:z≤hi
  ·have t2:decide (z≤hi)=true:=dU h2
   rw [dU (show lo≤z∧z≤hi from ⟨h1,h2⟩)]
   clear h1 h2
   go_enter Tryz.func152,Tryz.ntmps152
   go_wp2_with fail
   go_ret
   exact ⟨rfl,rfl⟩
  ·have t2:decide (z≤hi)=false:=dF h2
   rw [dF (show¬(lo≤z∧z≤hi) from fun h=>h2 h.2)]
   clear h1 h2
   go_enter Tryz.func152,Tryz.ntmps152
   go_wp2_with fail
   go_ret
   exact ⟨rfl,rfl⟩
 ·have t1:decide (lo≤z)=false:=dF h1
  rw [dF (show¬(lo≤z∧z≤hi) from fun h=>h1 h.1)]
  clear h1
  go_enter Tryz.func152,Tryz.ntmps152
  go_wp2_with fail
  go_ret
  exact ⟨rfl,rfl⟩
theorem p_lvl (z:Int) (f:Bool) (hf:f=decide (¬lvP z)) (w:World):Calls Tryz.prog 188 #[.int .i64 z] w fun e w'=>e= .returned (.bool f)∧Below w.heap.size w w':=by
 subst hf
 by_cases h1:z< -4194304
 ·have t1:decide (z< -4194304)=true:=dU h1
  rw [dU (show¬lvP z by unfold lvP;omega)]
  clear h1
  go_enter Tryz.func188,Tryz.ntmps188
  go_wp2_with fail
  go_ret
  exact ⟨rfl,bel⟩
 ·have t1:decide (z< -4194304)=false:=dF h1
  by_cases h2:4194304<z
  ·have t2:decide (4194304<z)=true:=dU h2
   rw [dU (show¬lvP z by unfold lvP;omega)]
   clear h1 h2
   go_enter Tryz.func188,Tryz.ntmps188
   go_wp2_with fail
   go_ret
   exact ⟨rfl,bel⟩
  ·have t2:decide (4194304<z)=false:=dF h2
   rw [dF (show¬¬lvP z by unfold lvP;omega)]
   clear h1 h2
   go_enter Tryz.func188,Tryz.ntmps188
   go_wp2_with fail
   go_ret
   exact ⟨rfl,bel⟩
set_option maxRecDepth 100000 in
set_option maxHeartbeats 2000000 in
theorem find_lvl (A:Option Addr) (n c k:Nat) (C:Nat→Int) (w:World) (h2:n≤2000) (ht:IntIn w A n C) (hk:FirstAt (fun j=>decide (¬lvP (C j))) n k) (v:Int) (hv:v=if k<n then (k:Int) else -1):
 Calls Tryz.prog 174 #[.slice A n c,.func (.func 188) #[] #[]] w fun e w'=>e= .returned (.int .i64 v)∧Below w.heap.size w w':=by
 have HT:=LH ht
 have HK:=LH hk
 have H2:=LH h2
 have HV:=LH hv
 clear ht hk h2 hv
 go_enter Tryz.func174,Tryz.ntmps174
 go_wp2_with fail
 go_loopw [8] (fun u wr=>∃i:Nat,Hid (i≤n∧i≤k)∧u= .int .i64 i∧Hid (Below w.heap.size w wr)) (fun u _=>n - (RowKit.intOf u).toNat)
 case atStart=>exact ⟨0,⟨Nat.zero_le _,Nat.zero_le _⟩,rfl,bR _ _⟩
 case round=>
  obtain ⟨i,Hi,rfl,HW⟩:=hrel
  by_cases hlt:i<n
  ·have T0:decide ((i:Int)<(n:Int))=true:=by simp<;> omega
   have T0':decide (i<n)=true:=dU hlt
   obtain ⟨i',hi'⟩:∃z,z=i+1:=⟨_,rfl⟩
   have x0:IntKind.i64.wrap ((i:Int)+1)=(i':Int):=by have:=H2.out;rw [IntKind.wrap_i64];omega
   obtain ⟨b,off,rfl,hb,c0⟩:=(HT.out.below (nl _) HW.out).at hlt
   have k0:(0:Int)≤(i:Int):=by omega
   have k1:(i:Int)<(n:Int):=by omega
   have HMS:Hid (n - (RowKit.intOf (Value.int .i64 (i':Int))).toNat<n - (RowKit.intOf (Value.int .i64 (i:Int))).toNat):=by show _<_;simp [RowKit.intOf];omega
   rcases zD7 HK.out hlt Hi.out.2 with ⟨hp,hik⟩|⟨hp,hik⟩
   ·have KK:=LH fun w=>(p_lvl (C i) true hp.symm w)
    have HR:Hid ((i:Int)=v):=by show (i:Int)=v;rw [HV.out,hik,if_pos (by omega)]
    clear hi' hp hik
    go_wp2_with (first |(go_at_call 188;(with_reducible refine (KK.out _).mono ?_);rintro e w1 ⟨rfl,hb1⟩;obtain ⟨hc1,hf1⟩:=zA8 hb1;have hz1:=hb1.size;(try simp at hz1);(try simp only [heap_drew,World.heap_drewN] at hz1 hc1 hf1);(try have hs1:=Nat.lt_of_succ_le hz1);(try have hs2:=Nat.lt_of_succ_lt hs1);(try have y0:w.heap.size<w1.heap.size:=by omega);(try have y1:w.heap.size+1<w1.heap.size:=by omega);(try have y2:w.heap.size+2<w1.heap.size:=by omega)))
    go_ret
    refine ⟨zC3 HR.out,?_⟩
    have:=HW.out
    exact bel
   ·have KK:=LH fun w=>(p_lvl (C i) false hp.symm w)
    have HI':Hid (i'≤n∧i'≤k):=by show _∧_;omega
    clear hi' hp hik
    go_wp2_with (first |(go_at_call 188;(with_reducible refine (KK.out _).mono ?_);rintro e w1 ⟨rfl,hb1⟩;obtain ⟨hc1,hf1⟩:=zA8 hb1;have hz1:=hb1.size;(try simp at hz1);(try simp only [heap_drew,World.heap_drewN] at hz1 hc1 hf1);(try have hs1:=Nat.lt_of_succ_le hz1);(try have hs2:=Nat.lt_of_succ_lt hs1);(try have y0:w.heap.size<w1.heap.size:=by omega);(try have y1:w.heap.size+1<w1.heap.size:=by omega);(try have y2:w.heap.size+2<w1.heap.size:=by omega)))
    go_roundw
    case rel=>exact ⟨i',HI',rfl,by have:=HW.out;exact bel⟩
    case measure=>exact HMS.out
  ·have e:i=n:=by have:=Hi.out;omega
   have HR:Hid ((-1:Int)=v):=by show (-1:Int)=v;rw [HV.out,if_neg (by have:=Hi.out;omega)]
   have T0:decide ((i:Int)<(n:Int))=false:=by simp<;> omega
   have T0':decide (i<n)=false:=dF hlt
   clear e hlt
   go_wp2_with fail
   go_ret
   exact ⟨zC3 HR.out,HW.out⟩
theorem has_lvl (A:Option Addr) (n c:Nat) (C:Nat→Int) (w:World) (h2:n≤2000) (ht:IntIn w A n C) (f:Bool) (hf:f=true↔∃j,j<n∧(fun j=>decide (¬lvP (C j))) j=true):
 Calls Tryz.prog 129 #[.slice A n c,.func (.func 188) #[] #[]] w fun e w'=>e= .returned (.bool f)∧Below w.heap.size w w':=by
 obtain ⟨k,hk⟩:=zG8 (fun j=>decide (¬lvP (C j))) n
 have hany:=zF9 hk
 have S:=LH (find_lvl A n c k C w h2 ht hk _ rfl)
 by_cases hkn:k<n
 ·have hft:f=true:=hf.2 (hany.1 hkn)
  rw [if_pos hkn] at S
  have t:decide ((0:Int)≤(k:Int))=true:=dU (by omega)
  subst hft
  clear hk hany hkn hf ht h2
  go_enter Tryz.func129,Tryz.ntmps129
  go_wp2_with (first |(go_at_call 174;(with_reducible refine (S.out).mono ?_);rintro e w1 ⟨rfl,hb1⟩;obtain ⟨hc1,hf1⟩:=zA8 hb1;have hz1:=hb1.size;(try simp at hz1);(try simp only [heap_drew,World.heap_drewN] at hz1 hc1 hf1);(try have hs1:=Nat.lt_of_succ_le hz1);(try have hs2:=Nat.lt_of_succ_lt hs1);(try have y0:w.heap.size<w1.heap.size:=by omega);(try have y1:w.heap.size+1<w1.heap.size:=by omega);(try have y2:w.heap.size+2<w1.heap.size:=by omega)))
  go_ret
  refine ⟨rfl,?_⟩
  exact bel
 ·have hft:f=false:=by
   cases f with
   |false=>rfl
   |true=>exact absurd (hany.2 (hf.1 rfl)) hkn
  rw [if_neg hkn] at S
  subst hft
  clear hk hany hkn hf ht h2
  go_enter Tryz.func129,Tryz.ntmps129
  go_wp2_with (first |(go_at_call 174;(with_reducible refine (S.out).mono ?_);rintro e w1 ⟨rfl,hb1⟩;obtain ⟨hc1,hf1⟩:=zA8 hb1;have hz1:=hb1.size;(try simp at hz1);(try simp only [heap_drew,World.heap_drewN] at hz1 hc1 hf1);(try have hs1:=Nat.lt_of_succ_le hz1);(try have hs2:=Nat.lt_of_succ_lt hs1);(try have y0:w.heap.size<w1.heap.size:=by omega);(try have y1:w.heap.size+1<w1.heap.size:=by omega);(try have y2:w.heap.size+2<w1.heap.size:=by omega)))
  go_ret
  refine ⟨rfl,?_⟩
  exact bel
theorem nlevel (A:Option Addr) (n c:Nat) (C:Nat→Int) (h2:n≤2000) (f:Bool) (hf:f=true↔∀j,j<n→lvP (C j)) (w:World) (ht:IntIn w A n C):
 Calls Tryz.prog 153 #[.slice A n c] w fun e w'=>e= .returned (.bool f)∧Below w.heap.size w w':=by
 have S:=LH (has_lvl A n c C w h2 ht (!f) (by
  cases f with
  |true=>exact ⟨fun h=>(by cases h),fun ⟨j,hj,h⟩=>absurd ((hf.1 rfl) j hj) (of_decide_eq_true h)⟩
  |false=>
   refine ⟨fun _=>?_,fun _=>rfl⟩
   refine Classical.byContradiction fun hn=>?_
   have:(false:Bool)=true:=hf.2 fun j hj=>Classical.byContradiction fun h=>hn ⟨j,hj,dU h⟩
   cases this))
 clear hf ht h2
 cases f
 all_goals
  go_enter Tryz.func153,Tryz.ntmps153
  go_wp2_with (first |(go_at_call 129;(with_reducible refine (S.out).mono ?_);rintro e w1 ⟨rfl,hb1⟩;obtain ⟨hc1,hf1⟩:=zA8 hb1;have hz1:=hb1.size;(try simp at hz1);(try simp only [heap_drew,World.heap_drewN] at hz1 hc1 hf1);(try have hs1:=Nat.lt_of_succ_le hz1);(try have hs2:=Nat.lt_of_succ_lt hs1);(try have y0:w.heap.size<w1.heap.size:=by omega);(try have y1:w.heap.size+1<w1.heap.size:=by omega);(try have y2:w.heap.size+2<w1.heap.size:=by omega)))
  go_ret
  refine ⟨rfl,?_⟩
  exact bel
set_option maxHeartbeats 1000000 in
theorem nshaped (A:Option Addr) (n c:Nat) (X Y:Nat→Int) (h:Int) (w:World) (ht:TabIn w A n X Y):
 Calls Tryz.prog 154 #[.slice A n c,.int .i64 h] w fun e w'=>e= .returned (.bool (boolOf (CurveOK n X Y h 1125899906842624)))∧Below w.heap.size w w':=by
 have C:=LH fun w ht=>zW5 A n c X Y w ht
 obtain ⟨f,hf⟩:∃f,Hid (f=boolOf (CurveOK n X Y h 1125899906842624)):=⟨_,rfl⟩
 rw [←hf.out]
 by_cases hv:TabOK n X Y
 ·rcases ht.2 with h0 |⟨b,off,rfl,hT⟩
  ·exact absurd hv.1 (by omega)
  ·have HT:=LH ht
   obtain ⟨m,rfl⟩:∃m,n=m+1:=⟨n - 1,by have:=hv.1;omega⟩
   have hb:=hT.1
   have f0:=(hT.2 0 (by omega)).1
   have f1:=(hT.2 0 (by omega)).2
   have l0:=(hT.2 m (by omega)).1
   have l1:=(hT.2 m (by omega)).2
   have e2:IntKind.i64.wrap ((m:Int)+1 - 1)=(m:Int):=by rw [IntKind.wrap_i64];have:=hv.2.1;omega
   have e3:IntKind.i64.wrap (m:Int)=(m:Int):=by rw [IntKind.wrap_i64];have:=hv.2.1;omega
   have tv:=zJ4 hv
   simp only [Nat.zero_mul,Nat.add_zero] at f0 f1
   clear ht hT
   go_enter Tryz.func154,Tryz.ntmps154
   go_wp2_with (first |(go_at_call 158;(with_reducible refine (C.out _ HT.out).mono ?_);rintro e w1 ⟨rfl,hb1⟩;obtain ⟨hc1,hf1⟩:=zA8 hb1;have hz1:=hb1.size;(try simp at hz1);(try simp only [heap_drew,World.heap_drewN] at hz1 hc1 hf1);(try have hs1:=Nat.lt_of_succ_le hz1);(try have hs2:=Nat.lt_of_succ_lt hs1);(try have y0:w.heap.size<w1.heap.size:=by omega);(try have y1:w.heap.size+1<w1.heap.size:=by omega);(try have y2:w.heap.size+2<w1.heap.size:=by omega);(try have yb:b<w1.heap.size:=by omega)))
   all_goals (go_ret;refine ⟨zC7 (by rw [hf.out];exact zI3 (by simp [CurveOK, *])),?_⟩;exact bel)
 ·obtain rfl:f=false:=by rw [hf.out];exact zA0 fun h=>hv h.1
  have tv:=zG2 hv
  have HT:=LH ht
  clear ht
  go_enter Tryz.func154,Tryz.ntmps154
  go_wp2_with (first |(go_at_call 158;(with_reducible refine (C.out _ HT.out).mono ?_);rintro e w1 ⟨rfl,hb1⟩;obtain ⟨hc1,hf1⟩:=zA8 hb1;have hz1:=hb1.size;(try simp at hz1);(try simp only [heap_drew,World.heap_drewN] at hz1 hc1 hf1);(try have hs1:=Nat.lt_of_succ_le hz1);(try have hs2:=Nat.lt_of_succ_lt hs1);(try have y0:w.heap.size<w1.heap.size:=by omega);(try have y1:w.heap.size+1<w1.heap.size:=by omega);(try have y2:w.heap.size+2<w1.heap.size:=by omega)))
  go_ret
  refine ⟨rfl,?_⟩
  exact bel
theorem rposit (z:Int) (w:World):Calls Tryz.prog 101 #[.int .i64 z] w fun e w'=>e= .returned (.bool (decide (poP z)))∧w=w':=by
 by_cases h1: -16777216≤z
 ·have t1:decide (-16777216≤z)=true:=dU h1
  by_cases h2:z≤16777216
  ·have t2:decide (z≤16777216)=true:=dU h2
   rw [dU (show poP z from ⟨h1,h2⟩)]
   clear h1 h2
   go_enter Tryz.func101,Tryz.ntmps101
   go_wp2_with fail
   go_ret
   exact ⟨rfl,rfl⟩
  ·have t2:decide (z≤16777216)=false:=dF h2
   rw [dF (show¬(poP z) from fun h=>h2 h.2)]
   clear h1 h2
   go_enter Tryz.func101,Tryz.ntmps101
   go_wp2_with fail
   go_ret
   exact ⟨rfl,rfl⟩
 ·have t1:decide (-16777216≤z)=false:=dF h1
  rw [dF (show¬(poP z) from fun h=>h1 h.1)]
  clear h1
  go_enter Tryz.func101,Tryz.ntmps101
  go_wp2_with fail
  go_ret
  exact ⟨rfl,rfl⟩
theorem rlev (z:Int) (w:World):Calls Tryz.prog 102 #[.int .i64 z] w fun e w'=>e= .returned (.bool (decide (lvP z)))∧w=w':=by
 by_cases h1: -4194304≤z
 ·have t1:decide (-4194304≤z)=true:=dU h1
  by_cases h2:z≤4194304
  ·have t2:decide (z≤4194304)=true:=dU h2
   rw [dU (show lvP z from ⟨h1,h2⟩)]
   clear h1 h2
   go_enter Tryz.func102,Tryz.ntmps102
   go_wp2_with fail
   go_ret
   exact ⟨rfl,rfl⟩
  ·have t2:decide (z≤4194304)=false:=dF h2
   rw [dF (show¬(lvP z) from fun h=>h2 h.2)]
   clear h1 h2
   go_enter Tryz.func102,Tryz.ntmps102
   go_wp2_with fail
   go_ret
   exact ⟨rfl,rfl⟩
 ·have t1:decide (-4194304≤z)=false:=dF h1
  rw [dF (show¬(lvP z) from fun h=>h1 h.1)]
  clear h1
  go_enter Tryz.func102,Tryz.ntmps102
  go_wp2_with fail
  go_ret
  exact ⟨rfl,rfl⟩
theorem rwithin (z m:Int) (w:World):Calls Tryz.prog 104 #[.int .i64 z,.int .i64 m] w fun e w'=>e= .returned (.bool (decide (1≤z∧z≤m)))∧w=w':=by
 by_cases h1:1≤z
 ·have t1:decide (1≤z)=true:=dU h1
  by_cases h2:z≤m
  ·have t2:decide (z≤m)=true:=dU h2
   rw [dU (show 1≤z∧z≤m from ⟨h1,h2⟩)]
   clear h1 h2
   go_enter Tryz.func104,Tryz.ntmps104
   go_wp2_with fail
   go_ret
   exact ⟨rfl,rfl⟩
  ·have t2:decide (z≤m)=false:=dF h2
   rw [dF (show¬(1≤z∧z≤m) from fun h=>h2 h.2)]
   clear h1 h2
   go_enter Tryz.func104,Tryz.ntmps104
   go_wp2_with fail
   go_ret
   exact ⟨rfl,rfl⟩
 ·have t1:decide (1≤z)=false:=dF h1
  rw [dF (show¬(1≤z∧z≤m) from fun h=>h1 h.1)]
  clear h1
  go_enter Tryz.func104,Tryz.ntmps104
  go_wp2_with fail
  go_ret
  exact ⟨rfl,rfl⟩
set_option maxHeartbeats 1000000 in
theorem rshape (A:Option Addr) (n c:Nat) (X Y:Nat→Int) (h:Int) (w:World) (ht:TabIn w A n X Y):
 Calls Tryz.prog 103 #[.slice A n c,.int .i64 h] w fun e w'=>e= .returned (.bool (boolOf (CurveOK n X Y h 1125899906842624)))∧Below w.heap.size w w':=by
 have C:=LH fun w ht=>zW7 A n c X Y w ht
 obtain ⟨f,hf⟩:∃f,Hid (f=boolOf (CurveOK n X Y h 1125899906842624)):=⟨_,rfl⟩
 rw [←hf.out]
 by_cases hv:TabOK n X Y
 ·rcases ht.2 with h0 |⟨b,off,rfl,hT⟩
  ·exact absurd hv.1 (by omega)
  ·have HT:=LH ht
   obtain ⟨m,rfl⟩:∃m,n=m+1:=⟨n - 1,by have:=hv.1;omega⟩
   have hb:=hT.1
   have f0:=(hT.2 0 (by omega)).1
   have f1:=(hT.2 0 (by omega)).2
   have l0:=(hT.2 m (by omega)).1
   have l1:=(hT.2 m (by omega)).2
   have e2:IntKind.i64.wrap ((m:Int)+1 - 1)=(m:Int):=by rw [IntKind.wrap_i64];have:=hv.2.1;omega
   have e3:IntKind.i64.wrap (m:Int)=(m:Int):=by rw [IntKind.wrap_i64];have:=hv.2.1;omega
   have tv:=zJ4 hv
   simp only [Nat.zero_mul,Nat.add_zero] at f0 f1
   clear ht hT
   go_enter Tryz.func103,Tryz.ntmps103
   go_wp2_with (first |(go_at_call 147;(with_reducible refine (C.out _ HT.out).mono ?_);rintro e w1 ⟨rfl,hb1⟩;obtain ⟨hc1,hf1⟩:=zA8 hb1;have hz1:=hb1.size;(try simp at hz1);(try simp only [heap_drew,World.heap_drewN] at hz1 hc1 hf1);(try have hs1:=Nat.lt_of_succ_le hz1);(try have hs2:=Nat.lt_of_succ_lt hs1);(try have y0:w.heap.size<w1.heap.size:=by omega);(try have y1:w.heap.size+1<w1.heap.size:=by omega);(try have y2:w.heap.size+2<w1.heap.size:=by omega);(try have yb:b<w1.heap.size:=by omega)))
   all_goals (go_ret;refine ⟨zC7 (by rw [hf.out];exact zI3 (by simp [CurveOK, *])),?_⟩;exact bel)
 ·obtain rfl:f=false:=by rw [hf.out];exact zA0 fun h=>hv h.1
  have tv:=zG2 hv
  have HT:=LH ht
  clear ht
  go_enter Tryz.func103,Tryz.ntmps103
  go_wp2_with (first |(go_at_call 147;(with_reducible refine (C.out _ HT.out).mono ?_);rintro e w1 ⟨rfl,hb1⟩;obtain ⟨hc1,hf1⟩:=zA8 hb1;have hz1:=hb1.size;(try simp at hz1);(try simp only [heap_drew,World.heap_drewN] at hz1 hc1 hf1);(try have hs1:=Nat.lt_of_succ_le hz1);(try have hs2:=Nat.lt_of_succ_lt hs1);(try have y0:w.heap.size<w1.heap.size:=by omega);(try have y1:w.heap.size+1<w1.heap.size:=by omega);(try have y2:w.heap.size+2<w1.heap.size:=by omega)))
  go_ret
  refine ⟨rfl,?_⟩
  exact bel
theorem zY5 {n:Nat} {X Y:Nat→Int} (h:TabOK n X Y):∀j,j<n→∀i,i≤j→X i≤X j∧Y i≤Y j
 |0,_,i,hi=>by
  obtain rfl:i=0:=by omega
  exact ⟨Int.le_refl _,Int.le_refl _⟩
 |j+1,hj,i,hi=>by
  rcases Nat.lt_or_ge i (j+1) with g |g
  ·obtain ⟨a,b⟩:=zY5 h j (by omega) i (by omega)
   obtain ⟨_,_,h3⟩:=h.2.2 (j+1) hj
   have h4:=h3 (by omega)
   have e:j+1 - 1=j:=by omega
   rw [e] at h4
   exact ⟨by omega,by omega⟩
  ·obtain rfl:i=j+1:=by omega
   exact ⟨Int.le_refl _,Int.le_refl _⟩
def endsP (n:Nat) (X Y:Nat→Int):Prop:=0≤X 0∧X (n - 1)≤4194304∧0≤Y 0∧Y (n - 1)≤1099511627776
theorem pump_ends {n:Nat} {X Y:Nat→Int} (h:TabOK n X Y):zT3 n X Y↔endsP n X Y:=by
 have hn:=h.1
 unfold zT3 endsP
 constructor
 ·rintro ⟨_,h2⟩
  have a:=h2 0 (by omega)
  have b:=h2 (n - 1) (by omega)
  omega
 ·intro h2
  refine ⟨h,fun k hk=>?_⟩
  have a:=zY5 h k hk 0 (by omega)
  have b:=zY5 h (n - 1) (by omega) k (by omega)
  omega
set_option maxHeartbeats 2000000 in
theorem rcurve (A:Option Addr) (n c:Nat) (X Y:Nat→Int) (w:World) (ht:TabIn w A n X Y):
 Calls Tryz.prog 105 #[.slice A n c] w fun e w'=>e= .returned (.bool (boolOf (zT3 n X Y)))∧Below w.heap.size w w':=by
 have C:=LH fun w ht=>zW7 A n c X Y w ht
 obtain ⟨f,hf⟩:∃f,Hid (f=boolOf (zT3 n X Y)):=⟨_,rfl⟩
 rw [←hf.out]
 by_cases hv:TabOK n X Y
 ·rcases ht.2 with h0 |⟨b,off,rfl,hT⟩
  ·exact absurd hv.1 (by omega)
  ·have HT:=LH ht
   have HE:=LH (pump_ends hv)
   obtain ⟨m,rfl⟩:∃m,n=m+1:=⟨n - 1,by have:=hv.1;omega⟩
   have hb:=hT.1
   have f0:=(hT.2 0 (by omega)).1
   have f1:=(hT.2 0 (by omega)).2
   have l0:=(hT.2 m (by omega)).1
   have l1:=(hT.2 m (by omega)).2
   have e2:IntKind.i64.wrap ((m:Int)+1 - 1)=(m:Int):=by rw [IntKind.wrap_i64];have:=hv.2.1;omega
   have e3:IntKind.i64.wrap (m:Int)=(m:Int):=by rw [IntKind.wrap_i64];have:=hv.2.1;omega
   have tv:=zJ4 hv
   simp only [Nat.zero_mul,Nat.add_zero] at f0 f1
   obtain ⟨x0,hx0⟩:∃z,z=X 0:=⟨_,rfl⟩
   obtain ⟨x1,hx1⟩:∃z,z=X m:=⟨_,rfl⟩
   obtain ⟨y0,hy0⟩:∃z,z=Y 0:=⟨_,rfl⟩
   obtain ⟨y1,hy1⟩:∃z,z=Y m:=⟨_,rfl⟩
   have HEE:Hid (zT3 (m+1) X Y↔(0≤x0∧x1≤4194304∧0≤y0∧y1≤1099511627776)):=by rw [hx0,hx1,hy0,hy1];exact HE.out
   rw [←hx0] at f0
   rw [←hx1] at l0
   rw [←hy0] at f1
   rw [←hy1] at l1
   clear ht hT hx0 hx1 hy0 hy1 HE hv
   by_cases g0:0≤x0
   case neg=>
        have t0:decide (0≤x0)=false:=dF g0
        obtain rfl:f=false:=by rw [hf.out];exact zA0 fun h=>g0 (by have h:=HEE.out.1 h;exact h.1)
        clear hf g0
        go_enter Tryz.func105,Tryz.ntmps105
        go_wp2_with (first |(go_at_call 147;(with_reducible refine (C.out _ HT.out).mono ?_);rintro e w1 ⟨rfl,hb1⟩;obtain ⟨hc1,hf1⟩:=zA8 hb1;have hz1:=hb1.size;(try simp at hz1);(try simp only [heap_drew,World.heap_drewN] at hz1 hc1 hf1);(try have hs1:=Nat.lt_of_succ_le hz1);(try have hs2:=Nat.lt_of_succ_lt hs1);(try have y0:w.heap.size<w1.heap.size:=by omega);(try have y1:w.heap.size+1<w1.heap.size:=by omega);(try have y2:w.heap.size+2<w1.heap.size:=by omega);(try have yb:b<w1.heap.size:=by omega)))
        go_ret
        refine ⟨rfl,?_⟩
        exact bel
   have t0:decide (0≤x0)=true:=dU g0
   by_cases g1:x1≤4194304
   case neg=>
        have t1:decide (x1≤4194304)=false:=dF g1
        obtain rfl:f=false:=by rw [hf.out];exact zA0 fun h=>g1 (by have h:=HEE.out.1 h;exact h.2.1)
        clear hf g0 g1
        go_enter Tryz.func105,Tryz.ntmps105
        go_wp2_with (first |(go_at_call 147;(with_reducible refine (C.out _ HT.out).mono ?_);rintro e w1 ⟨rfl,hb1⟩;obtain ⟨hc1,hf1⟩:=zA8 hb1;have hz1:=hb1.size;(try simp at hz1);(try simp only [heap_drew,World.heap_drewN] at hz1 hc1 hf1);(try have hs1:=Nat.lt_of_succ_le hz1);(try have hs2:=Nat.lt_of_succ_lt hs1);(try have y0:w.heap.size<w1.heap.size:=by omega);(try have y1:w.heap.size+1<w1.heap.size:=by omega);(try have y2:w.heap.size+2<w1.heap.size:=by omega);(try have yb:b<w1.heap.size:=by omega)))
        go_ret
        refine ⟨rfl,?_⟩
        exact bel
   have t1:decide (x1≤4194304)=true:=dU g1
   by_cases g2:0≤y0
   case neg=>
        have t2:decide (0≤y0)=false:=dF g2
        obtain rfl:f=false:=by rw [hf.out];exact zA0 fun h=>g2 (by have h:=HEE.out.1 h;exact h.2.2.1)
        clear hf g0 g1 g2
        go_enter Tryz.func105,Tryz.ntmps105
        go_wp2_with (first |(go_at_call 147;(with_reducible refine (C.out _ HT.out).mono ?_);rintro e w1 ⟨rfl,hb1⟩;obtain ⟨hc1,hf1⟩:=zA8 hb1;have hz1:=hb1.size;(try simp at hz1);(try simp only [heap_drew,World.heap_drewN] at hz1 hc1 hf1);(try have hs1:=Nat.lt_of_succ_le hz1);(try have hs2:=Nat.lt_of_succ_lt hs1);(try have y0:w.heap.size<w1.heap.size:=by omega);(try have y1:w.heap.size+1<w1.heap.size:=by omega);(try have y2:w.heap.size+2<w1.heap.size:=by omega);(try have yb:b<w1.heap.size:=by omega)))
        go_ret
        refine ⟨rfl,?_⟩
        exact bel
   have t2:decide (0≤y0)=true:=dU g2
   by_cases g3:y1≤1099511627776
   case neg=>
        have t3:decide (y1≤1099511627776)=false:=dF g3
        obtain rfl:f=false:=by rw [hf.out];exact zA0 fun h=>g3 (by have h:=HEE.out.1 h;exact h.2.2.2)
        clear hf g0 g1 g2 g3
        go_enter Tryz.func105,Tryz.ntmps105
        go_wp2_with (first |(go_at_call 147;(with_reducible refine (C.out _ HT.out).mono ?_);rintro e w1 ⟨rfl,hb1⟩;obtain ⟨hc1,hf1⟩:=zA8 hb1;have hz1:=hb1.size;(try simp at hz1);(try simp only [heap_drew,World.heap_drewN] at hz1 hc1 hf1);(try have hs1:=Nat.lt_of_succ_le hz1);(try have hs2:=Nat.lt_of_succ_lt hs1);(try have y0:w.heap.size<w1.heap.size:=by omega);(try have y1:w.heap.size+1<w1.heap.size:=by omega);(try have y2:w.heap.size+2<w1.heap.size:=by omega);(try have yb:b<w1.heap.size:=by omega)))
        go_ret
        refine ⟨rfl,?_⟩
        exact bel
   have t3:decide (y1≤1099511627776)=true:=dU g3
   obtain rfl:f=true:=by rw [hf.out];exact zA2 (HEE.out.2 ⟨g0,g1,g2,g3⟩)
   clear hf g0 g1 g2 g3
   go_enter Tryz.func105,Tryz.ntmps105
   go_wp2_with (first |(go_at_call 147;(with_reducible refine (C.out _ HT.out).mono ?_);rintro e w1 ⟨rfl,hb1⟩;obtain ⟨hc1,hf1⟩:=zA8 hb1;have hz1:=hb1.size;(try simp at hz1);(try simp only [heap_drew,World.heap_drewN] at hz1 hc1 hf1);(try have hs1:=Nat.lt_of_succ_le hz1);(try have hs2:=Nat.lt_of_succ_lt hs1);(try have y0:w.heap.size<w1.heap.size:=by omega);(try have y1:w.heap.size+1<w1.heap.size:=by omega);(try have y2:w.heap.size+2<w1.heap.size:=by omega);(try have yb:b<w1.heap.size:=by omega)))
   go_ret
   refine ⟨rfl,?_⟩
   exact bel
 ·obtain rfl:f=false:=by rw [hf.out];exact zA0 fun h=>hv h.1
  have tv:=zG2 hv
  have HT:=LH ht
  clear ht
  go_enter Tryz.func105,Tryz.ntmps105
  go_wp2_with (first |(go_at_call 147;(with_reducible refine (C.out _ HT.out).mono ?_);rintro e w1 ⟨rfl,hb1⟩;obtain ⟨hc1,hf1⟩:=zA8 hb1;have hz1:=hb1.size;(try simp at hz1);(try simp only [heap_drew,World.heap_drewN] at hz1 hc1 hf1);(try have hs1:=Nat.lt_of_succ_le hz1);(try have hs2:=Nat.lt_of_succ_lt hs1);(try have y0:w.heap.size<w1.heap.size:=by omega);(try have y1:w.heap.size+1<w1.heap.size:=by omega);(try have y2:w.heap.size+2<w1.heap.size:=by omega)))
  go_ret
  refine ⟨rfl,?_⟩
  exact bel
theorem p_pump (x y:Int) (f:Bool) (hf:f=decide (¬((0≤x∧x≤4194304)∧(0≤y∧y≤1099511627776)))) (w:World):Calls Tryz.prog 160 #[.agg #[.int .i64 x,.int .i64 y]] w fun e w'=>e= .returned (.bool f)∧Below w.heap.size w w':=by
 subst hf
 have sx:=fun w=>zI6 x 0 4194304 w
 have sy:=fun w=>zI6 y 0 1099511627776 w
 by_cases h1:0≤x∧x≤4194304
 ·rw [dU h1] at sx
  by_cases h2:0≤y∧y≤1099511627776
  ·rw [dU h2] at sy
   have e:decide (¬((0≤x∧x≤4194304)∧(0≤y∧y≤1099511627776)))=false:=dF (fun h=>h ⟨h1,h2⟩)
   rw [e]
   clear e
   have SX:=LH sx
   have SY:=LH sy
   clear h1 h2 sx sy
   go_enter Tryz.func160,Tryz.ntmps160
   go_wp2_with (first |(go_at_call 152;(with_reducible refine (SX.out _).mono ?_);rintro e w' ⟨rfl,rfl⟩)|(go_at_call 152;(with_reducible refine (SY.out _).mono ?_);rintro e w' ⟨rfl,rfl⟩))
   go_ret
   exact ⟨rfl,bel⟩
  ·rw [dF h2] at sy
   have e:decide (¬((0≤x∧x≤4194304)∧(0≤y∧y≤1099511627776)))=true:=dU (fun h=>h2 h.2)
   rw [e]
   clear e
   have SX:=LH sx
   have SY:=LH sy
   clear h1 h2 sx sy
   go_enter Tryz.func160,Tryz.ntmps160
   go_wp2_with (first |(go_at_call 152;(with_reducible refine (SX.out _).mono ?_);rintro e w' ⟨rfl,rfl⟩)|(go_at_call 152;(with_reducible refine (SY.out _).mono ?_);rintro e w' ⟨rfl,rfl⟩))
   go_ret
   exact ⟨rfl,bel⟩
 ·rw [dF h1] at sx
  have e:decide (¬((0≤x∧x≤4194304)∧(0≤y∧y≤1099511627776)))=true:=dU (fun h=>h1 h.1)
  rw [e]
  clear e
  have SX:=LH sx
  have SY:=LH sy
  clear h1 sx sy
  go_enter Tryz.func160,Tryz.ntmps160
  go_wp2_with (first |(go_at_call 152;(with_reducible refine (SX.out _).mono ?_);rintro e w' ⟨rfl,rfl⟩)|(go_at_call 152;(with_reducible refine (SY.out _).mono ?_);rintro e w' ⟨rfl,rfl⟩))
  go_ret
  exact ⟨rfl,bel⟩
set_option maxRecDepth 100000 in
set_option maxHeartbeats 2000000 in
theorem find_pump (A:Option Addr) (n c k:Nat) (X Y:Nat→Int) (w:World) (h2:n≤2000) (ht:TabIn w A n X Y) (hk:FirstAt (fun j=>decide (¬((0≤X j∧X j≤4194304)∧(0≤Y j∧Y j≤1099511627776)))) n k) (v:Int) (hv:v=if k<n then (k:Int) else -1):
 Calls Tryz.prog 191 #[.slice A n c,.func (.func 160) #[] #[]] w fun e w'=>e= .returned (.int .i64 v)∧Below w.heap.size w w':=by
 have HT:=LH ht
 have HK:=LH hk
 have H2:=LH h2
 have HV:=LH hv
 clear ht hk h2 hv
 go_enter Tryz.func191,Tryz.ntmps191
 go_wp2_with fail
 go_loopw [8] (fun u wr=>∃i:Nat,Hid (i≤n∧i≤k)∧u= .int .i64 i∧Hid (Below w.heap.size w wr)) (fun u _=>n - (RowKit.intOf u).toNat)
 case atStart=>exact ⟨0,⟨Nat.zero_le _,Nat.zero_le _⟩,rfl,bR _ _⟩
 case round=>
  obtain ⟨i,Hi,rfl,HW⟩:=hrel
  by_cases hlt:i<n
  ·have T0:decide ((i:Int)<(n:Int))=true:=by simp<;> omega
   have T0':decide (i<n)=true:=dU hlt
   obtain ⟨i',hi'⟩:∃z,z=i+1:=⟨_,rfl⟩
   have x0:IntKind.i64.wrap ((i:Int)+1)=(i':Int):=by have:=H2.out;rw [IntKind.wrap_i64];omega
   obtain ⟨b,off,rfl,hb,c0,c1⟩:=(HT.out.below (nl _) HW.out).at hlt
   have k0:(0:Int)≤(i:Int):=by omega
   have k1:(i:Int)<(n:Int):=by omega
   have HMS:Hid (n - (RowKit.intOf (Value.int .i64 (i':Int))).toNat<n - (RowKit.intOf (Value.int .i64 (i:Int))).toNat):=by show _<_;simp [RowKit.intOf];omega
   rcases zD7 HK.out hlt Hi.out.2 with ⟨hp,hik⟩|⟨hp,hik⟩
   ·have KK:=LH fun w=>(p_pump (X i) (Y i) true hp.symm w)
    have HR:Hid ((i:Int)=v):=by show (i:Int)=v;rw [HV.out,hik,if_pos (by omega)]
    clear hi' hp hik
    go_wp2_with (first |(go_at_call 160;(with_reducible refine (KK.out _).mono ?_);rintro e w1 ⟨rfl,hb1⟩;obtain ⟨hc1,hf1⟩:=zA8 hb1;have hz1:=hb1.size;(try simp at hz1);(try simp only [heap_drew,World.heap_drewN] at hz1 hc1 hf1);(try have hs1:=Nat.lt_of_succ_le hz1);(try have hs2:=Nat.lt_of_succ_lt hs1);(try have y0:w.heap.size<w1.heap.size:=by omega);(try have y1:w.heap.size+1<w1.heap.size:=by omega);(try have y2:w.heap.size+2<w1.heap.size:=by omega)))
    go_ret
    refine ⟨zC3 HR.out,?_⟩
    have:=HW.out
    exact bel
   ·have KK:=LH fun w=>(p_pump (X i) (Y i) false hp.symm w)
    have HI':Hid (i'≤n∧i'≤k):=by show _∧_;omega
    clear hi' hp hik
    go_wp2_with (first |(go_at_call 160;(with_reducible refine (KK.out _).mono ?_);rintro e w1 ⟨rfl,hb1⟩;obtain ⟨hc1,hf1⟩:=zA8 hb1;have hz1:=hb1.size;(try simp at hz1);(try simp only [heap_drew,World.heap_drewN] at hz1 hc1 hf1);(try have hs1:=Nat.lt_of_succ_le hz1);(try have hs2:=Nat.lt_of_succ_lt hs1);(try have y0:w.heap.size<w1.heap.size:=by omega);(try have y1:w.heap.size+1<w1.heap.size:=by omega);(try have y2:w.heap.size+2<w1.heap.size:=by omega)))
    go_roundw
    case rel=>exact ⟨i',HI',rfl,by have:=HW.out;exact bel⟩
    case measure=>exact HMS.out
  ·have e:i=n:=by have:=Hi.out;omega
   have HR:Hid ((-1:Int)=v):=by show (-1:Int)=v;rw [HV.out,if_neg (by have:=Hi.out;omega)]
   have T0:decide ((i:Int)<(n:Int))=false:=by simp<;> omega
   have T0':decide (i<n)=false:=dF hlt
   clear e hlt
   go_wp2_with fail
   go_ret
   exact ⟨zC3 HR.out,HW.out⟩
theorem has_pump (A:Option Addr) (n c:Nat) (X Y:Nat→Int) (w:World) (h2:n≤2000) (ht:TabIn w A n X Y) (f:Bool) (hf:f=true↔∃j,j<n∧(fun j=>decide (¬((0≤X j∧X j≤4194304)∧(0≤Y j∧Y j≤1099511627776)))) j=true):
 Calls Tryz.prog 159 #[.slice A n c,.func (.func 160) #[] #[]] w fun e w'=>e= .returned (.bool f)∧Below w.heap.size w w':=by
 obtain ⟨k,hk⟩:=zG8 (fun j=>decide (¬((0≤X j∧X j≤4194304)∧(0≤Y j∧Y j≤1099511627776)))) n
 have hany:=zF9 hk
 have S:=LH (find_pump A n c k X Y w h2 ht hk _ rfl)
 by_cases hkn:k<n
 ·have hft:f=true:=hf.2 (hany.1 hkn)
  rw [if_pos hkn] at S
  have t:decide ((0:Int)≤(k:Int))=true:=dU (by omega)
  subst hft
  clear hk hany hkn hf ht h2
  go_enter Tryz.func159,Tryz.ntmps159
  go_wp2_with (first |(go_at_call 191;(with_reducible refine (S.out).mono ?_);rintro e w1 ⟨rfl,hb1⟩;obtain ⟨hc1,hf1⟩:=zA8 hb1;have hz1:=hb1.size;(try simp at hz1);(try simp only [heap_drew,World.heap_drewN] at hz1 hc1 hf1);(try have hs1:=Nat.lt_of_succ_le hz1);(try have hs2:=Nat.lt_of_succ_lt hs1);(try have y0:w.heap.size<w1.heap.size:=by omega);(try have y1:w.heap.size+1<w1.heap.size:=by omega);(try have y2:w.heap.size+2<w1.heap.size:=by omega)))
  go_ret
  refine ⟨rfl,?_⟩
  exact bel
 ·have hft:f=false:=by
   cases f with
   |false=>rfl
   |true=>exact absurd (hany.2 (hf.1 rfl)) hkn
  rw [if_neg hkn] at S
  subst hft
  clear hk hany hkn hf ht h2
  go_enter Tryz.func159,Tryz.ntmps159
  go_wp2_with (first |(go_at_call 191;(with_reducible refine (S.out).mono ?_);rintro e w1 ⟨rfl,hb1⟩;obtain ⟨hc1,hf1⟩:=zA8 hb1;have hz1:=hb1.size;(try simp at hz1);(try simp only [heap_drew,World.heap_drewN] at hz1 hc1 hf1);(try have hs1:=Nat.lt_of_succ_le hz1);(try have hs2:=Nat.lt_of_succ_lt hs1);(try have y0:w.heap.size<w1.heap.size:=by omega);(try have y1:w.heap.size+1<w1.heap.size:=by omega);(try have y2:w.heap.size+2<w1.heap.size:=by omega)))
  go_ret
  refine ⟨rfl,?_⟩
  exact bel
end Go.Proofs.YtchakniaoeodmaaGreatDoor

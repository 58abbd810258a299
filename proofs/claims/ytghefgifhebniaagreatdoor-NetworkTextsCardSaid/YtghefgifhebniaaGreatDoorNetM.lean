/- The knots of a pump's curve, in package network. -/
import Derived.Test.YtghefgifhebniaaGreatDoorMgP
import Derived.Test.YtghefgifhebniaaGreatDoorMgL
namespace Go.Proofs.YtghefgifhebniaaGreatDoor
open Go.RowKit
set_option linter.unusedVariables false
set_option linter.unusedSimpArgs false
theorem p_pump (x y:Int) (f:Bool) (hf:f=decide (¬((0≤x∧x≤4194304)∧(0≤y∧y≤1099511627776)))) (w:World):Calls Tryz.prog 114 #[.agg #[.int .i64 x,.int .i64 y]] w fun e w'=>e= .returned (.bool f)∧Below w.heap.size w w':=by
 subst hf
 have sx:=fun w=>zH9 x 0 4194304 w
 have sy:=fun w=>zH9 y 0 1099511627776 w
 by_cases h1:0≤x∧x≤4194304
 ·rw [dT h1] at sx
  by_cases h2:0≤y∧y≤1099511627776
  ·rw [dT h2] at sy
   have e:decide (¬((0≤x∧x≤4194304)∧(0≤y∧y≤1099511627776)))=false:=dF (fun h=>h ⟨h1,h2⟩)
   rw [e]
   clear e
   have SX:=LH sx
   have SY:=LH sy
   clear h1 h2 sx sy
   go_enter Tryz.func114,Tryz.ntmps114
   go_wp2_with (first |(go_at_call 108;(with_reducible refine (SX.out _).mono ?_);rintro e w' ⟨rfl,rfl⟩)|(go_at_call 108;(with_reducible refine (SY.out _).mono ?_);rintro e w' ⟨rfl,rfl⟩))
   go_ret
   exact ⟨rfl,bel⟩
  ·rw [dF h2] at sy
   have e:decide (¬((0≤x∧x≤4194304)∧(0≤y∧y≤1099511627776)))=true:=dT (fun h=>h2 h.2)
   rw [e]
   clear e
   have SX:=LH sx
   have SY:=LH sy
   clear h1 h2 sx sy
   go_enter Tryz.func114,Tryz.ntmps114
   go_wp2_with (first |(go_at_call 108;(with_reducible refine (SX.out _).mono ?_);rintro e w' ⟨rfl,rfl⟩)|(go_at_call 108;(with_reducible refine (SY.out _).mono ?_);rintro e w' ⟨rfl,rfl⟩))
   go_ret
   exact ⟨rfl,bel⟩
 ·rw [dF h1] at sx
  have e:decide (¬((0≤x∧x≤4194304)∧(0≤y∧y≤1099511627776)))=true:=dT (fun h=>h1 h.1)
  rw [e]
  clear e
  have SX:=LH sx
  have SY:=LH sy
  clear h1 sx sy
  go_enter Tryz.func114,Tryz.ntmps114
  go_wp2_with (first |(go_at_call 108;(with_reducible refine (SX.out _).mono ?_);rintro e w' ⟨rfl,rfl⟩)|(go_at_call 108;(with_reducible refine (SY.out _).mono ?_);rintro e w' ⟨rfl,rfl⟩))
  go_ret
  exact ⟨rfl,bel⟩
set_option maxRecDepth 100000 in
set_option maxHeartbeats 2000000 in
theorem find_pump (A:Option Addr) (n c k:Nat) (X Y:Nat→Int) (w:World) (h2:n≤2000) (ht:TabIn w A n X Y) (hk:FirstAt (fun j=>decide (¬((0≤X j∧X j≤4194304)∧(0≤Y j∧Y j≤1099511627776)))) n k) (v:Int) (hv:v=if k<n then (k:Int) else -1):
 Calls Tryz.prog 152 #[.slice A n c,.func (.func 114) #[] #[]] w fun e w'=>e= .returned (.int .i64 v)∧Below w.heap.size w w':=by
 have HT:=LH ht
 have HK:=LH hk
 have H2:=LH h2
 have HV:=LH hv
 clear ht hk h2 hv
 go_enter Tryz.func152,Tryz.ntmps152
 go_wp2_with fail
 go_loopw [8] (fun u wr=>∃i:Nat,Hid (i≤n∧i≤k)∧u= .int .i64 i∧Hid (Below w.heap.size w wr)) (fun u _=>n - (RowKit.intOf u).toNat)
 case atStart=>exact ⟨0,⟨Nat.zero_le _,Nat.zero_le _⟩,rfl,bR _ _⟩
 case round=>
  obtain ⟨i,Hi,rfl,HW⟩:=hrel
  by_cases hlt:i<n
  ·have T0:decide ((i:Int)<(n:Int))=true:=by simp<;> omega
   have T0':decide (i<n)=true:=dT hlt
   obtain ⟨i',hi'⟩:∃z,z=i+1:=⟨_,rfl⟩
   have x0:IntKind.i64.wrap ((i:Int)+1)=(i':Int):=by have:=H2.out;rw [IntKind.wrap_i64];omega
   obtain ⟨b,off,rfl,hb,c0,c1⟩:=(HT.out.below (nl _) HW.out).at hlt
   have k0:(0:Int)≤(i:Int):=by omega
   have k1:(i:Int)<(n:Int):=by omega
   have HMS:Hid (n - (RowKit.intOf (Value.int .i64 (i':Int))).toNat<n - (RowKit.intOf (Value.int .i64 (i:Int))).toNat):=by show _<_;simp [RowKit.intOf];omega
   rcases zI1 HK.out hlt Hi.out.2 with ⟨hp,hik⟩|⟨hp,hik⟩
   ·have KK:=LH fun w=>(p_pump (X i) (Y i) true hp.symm w)
    have HR:Hid ((i:Int)=v):=by show (i:Int)=v;rw [HV.out,hik,if_pos (by omega)]
    clear hi' hp hik
    go_wp2_with (first |(go_at_call 114;(with_reducible refine (KK.out _).mono ?_);rintro e w1 ⟨rfl,hb1⟩;obtain ⟨hc1,hf1⟩:=zA4 hb1;have hz1:=hb1.size;(try simp at hz1);(try simp only [heap_drew,World.heap_drewN] at hz1 hc1 hf1);(try have y0:w.heap.size<w1.heap.size:=by omega)))
    go_ret
    refine ⟨zE1 HR.out,?_⟩
    have:=HW.out
    exact bel
   ·have KK:=LH fun w=>(p_pump (X i) (Y i) false hp.symm w)
    have HI':Hid (i'≤n∧i'≤k):=by show _∧_;omega
    clear hi' hp hik
    go_wp2_with (first |(go_at_call 114;(with_reducible refine (KK.out _).mono ?_);rintro e w1 ⟨rfl,hb1⟩;obtain ⟨hc1,hf1⟩:=zA4 hb1;have hz1:=hb1.size;(try simp at hz1);(try simp only [heap_drew,World.heap_drewN] at hz1 hc1 hf1);(try have y0:w.heap.size<w1.heap.size:=by omega)))
    go_roundw
    case rel=>exact ⟨i',HI',rfl,by have:=HW.out;exact bel⟩
    case measure=>exact HMS.out
  ·have e:i=n:=by have:=Hi.out;omega
   have HR:Hid ((-1:Int)=v):=by show (-1:Int)=v;rw [HV.out,if_neg (by have:=Hi.out;omega)]
   have T0:decide ((i:Int)<(n:Int))=false:=by simp<;> omega
   have T0':decide (i<n)=false:=dF hlt
   clear e hlt
   go_wp2_with fail
   go_ret
   exact ⟨zE1 HR.out,HW.out⟩
theorem has_pump (A:Option Addr) (n c:Nat) (X Y:Nat→Int) (w:World) (h2:n≤2000) (ht:TabIn w A n X Y) (f:Bool) (hf:f=true↔∃j,j<n∧(fun j=>decide (¬((0≤X j∧X j≤4194304)∧(0≤Y j∧Y j≤1099511627776)))) j=true):
 Calls Tryz.prog 113 #[.slice A n c,.func (.func 114) #[] #[]] w fun e w'=>e= .returned (.bool f)∧Below w.heap.size w w':=by
 obtain ⟨k,hk⟩:=first_ex (fun j=>decide (¬((0≤X j∧X j≤4194304)∧(0≤Y j∧Y j≤1099511627776)))) n
 have hany:=first_any hk
 have S:=LH (find_pump A n c k X Y w h2 ht hk _ rfl)
 by_cases hkn:k<n
 ·have hft:f=true:=hf.2 (hany.1 hkn)
  rw [if_pos hkn] at S
  have t:decide ((0:Int)≤(k:Int))=true:=dT (by omega)
  subst hft
  clear hk hany hkn hf ht h2
  go_enter Tryz.func113,Tryz.ntmps113
  go_wp2_with (first |(go_at_call 152;(with_reducible refine (S.out).mono ?_);rintro e w1 ⟨rfl,hb1⟩;obtain ⟨hc1,hf1⟩:=zA4 hb1;have hz1:=hb1.size;(try simp at hz1);(try simp only [heap_drew,World.heap_drewN] at hz1 hc1 hf1);(try have y0:w.heap.size<w1.heap.size:=by omega)))
  go_ret
  refine ⟨rfl,?_⟩
  exact bel
 ·have hft:f=false:=by
   cases f with
   |false=>rfl
   |true=>exact absurd (hany.2 (hf.1 rfl)) hkn
  rw [if_neg hkn] at S
  subst hft
  clear hk hany hkn hf ht h2
  go_enter Tryz.func113,Tryz.ntmps113
  go_wp2_with (first |(go_at_call 152;(with_reducible refine (S.out).mono ?_);rintro e w1 ⟨rfl,hb1⟩;obtain ⟨hc1,hf1⟩:=zA4 hb1;have hz1:=hb1.size;(try simp at hz1);(try simp only [heap_drew,World.heap_drewN] at hz1 hc1 hf1);(try have y0:w.heap.size<w1.heap.size:=by omega)))
  go_ret
  refine ⟨rfl,?_⟩
  exact bel
end Go.Proofs.YtghefgifhebniaaGreatDoor

/- Tables: whether a table is valid, at every length, by the package and by the reference. -/
import Derived.Test.YtchakniaoeodmaaGreatDoorTab
namespace Go.Proofs.YtchakniaoeodmaaGreatDoor
open Go.RowKit
set_option linter.unusedVariables false
set_option linter.unusedSimpArgs false
set_option maxHeartbeats 4000000 in
theorem rvalid (b off n c:Nat) (X Y:Nat→Int) (w:World) (h1:1≤n) (h2:n≤100) (ht:TabAt w b off n X Y):
 Calls Tryz.prog 147 #[.slice (some ⟨b,off,none⟩) n c] w fun e w'=>e= .returned (.bool (tabB n X Y))∧Below w.heap.size w w':=by
 have HT:=LH ht
 have hb:=ht.1
 clear ht
 go_enter Tryz.func147,Tryz.ntmps147
 go_wp2
 go_loopw [3] (fun i wr=>∃k:Nat,k≤n∧i= .int .i64 k∧Hid (∀j,j<k→zJ8 X Y j)∧Below w.heap.size w wr) (fun i _=>n - (intOf i).toNat)
 case atStart=>exact ⟨0,Nat.zero_le _,rfl,fun j hj=>absurd hj (Nat.not_lt_zero _),bR _ _⟩
 case round=>
  obtain ⟨k,hk,rfl,hg,hbw⟩:=hrel
  by_cases hlt:k<n
  ·have hT:=HT.out.below hbw hb
   have hcx:=(hT.2 k hlt).1
   have hcy:=(hT.2 k hlt).2
   have hbwr:=hT.1
   have HT':=LH hT
   clear hT
   by_cases hx:inB (X k)
   ·have tx:=zP4 hx
    by_cases hy:inB (Y k)
    ·have ty:=zP4 hy
     by_cases hk0:k=0
     ·have t0:decide ((0:Int)<(k:Int))=false:=by simp<;> omega
      have t0':decide (0<k)=false:=by simp<;> omega
      have HG:Hid (∀j,j<k+1→zJ8 X Y j):=zP0 hg.out ⟨hx,hy,fun h=>absurd h (by omega)⟩
      clear hk0
      go_wp2_with (go_at_call 186;(with_reducible refine (zP6 _ _).mono ?_);rintro e w' ⟨rfl,rfl⟩)
      go_quiet (fail)
      go_wp2
      go_roundw
      case rel=>exact ⟨k+1,by omega,by go_num,HG,bel⟩
      case measure=>simp [intOf];omega
     ·obtain ⟨p,rfl⟩:∃p,k=p+1:=⟨k - 1,by omega⟩
      have hkp:=HT'.out.2 p (by omega)
      have hpx:=hkp.1
      have hpy:=hkp.2
      clear hkp
      have t0:decide ((0:Int)<(p:Int)+1)=true:=by simp<;> omega
      have e1:IntKind.i64.wrap ((p:Int)+1 - 1)=(p:Int):=by rw [IntKind.wrap_i64];omega
      have e2:IntKind.i64.wrap (p:Int)=(p:Int):=by rw [IntKind.wrap_i64];omega
      have l1:p<n:=by omega
      have l2:(p:Int)<(n:Int):=by omega
      clear hk0
      by_cases h3:X p<X (p+1)
      ·have t3:decide (X (p+1)≤X p)=false:=by simp<;> omega
       by_cases h4:Y p≤Y (p+1)
       ·have t4:decide (Y (p+1)<Y p)=false:=by simp<;> omega
        have HG:Hid (∀j,j<p+1+1→zJ8 X Y j):=zP0 hg.out ⟨hx,hy,fun h=>⟨h3,h4⟩⟩
        clear h3 h4
        go_wp2_with (go_at_call 186;(with_reducible refine (zP6 _ _).mono ?_);rintro e w' ⟨rfl,rfl⟩)
        go_quiet (fail)
        go_wp2
        go_roundw
        case rel=>exact ⟨p+1+1,by omega,by go_num,HG,bel⟩
        case measure=>simp [intOf];omega
       ·have t4:decide (Y (p+1)<Y p)=true:=by simp<;> omega
        have HB:Hid (tabB n X Y=false):=zM4 hlt fun h=>h4 (h.2.2 (by omega)).2
        clear h3 h4
        go_wp2_with (go_at_call 186;(with_reducible refine (zP6 _ _).mono ?_);rintro e w' ⟨rfl,rfl⟩)
        go_quiet (fail)
        go_wp2
        go_ret
        exact ⟨zC7 HB.out.symm,bel⟩
      ·have t3:decide (X (p+1)≤X p)=true:=by simp<;> omega
       have HB:Hid (tabB n X Y=false):=zM4 hlt fun h=>h3 (h.2.2 (by omega)).1
       clear h3
       go_wp2_with (go_at_call 186;(with_reducible refine (zP6 _ _).mono ?_);rintro e w' ⟨rfl,rfl⟩)
       go_quiet (fail)
       go_wp2
       go_ret
       exact ⟨zC7 HB.out.symm,bel⟩
    ·have ty:=zN1 hy
     have HB:Hid (tabB n X Y=false):=zM4 hlt fun h=>hy h.2.1
     go_wp2_with (go_at_call 186;(with_reducible refine (zP6 _ _).mono ?_);rintro e w' ⟨rfl,rfl⟩)
     go_ret
     exact ⟨zC7 HB.out.symm,bel⟩
   ·have tx:=zN1 hx
    have HB:Hid (tabB n X Y=false):=zM4 hlt fun h=>hx h.1
    go_wp2_with (go_at_call 186;(with_reducible refine (zP6 _ _).mono ?_);rintro e w' ⟨rfl,rfl⟩)
    go_ret
    exact ⟨zC7 HB.out.symm,bel⟩
  ·obtain rfl:k=n:=by omega
   go_wp2
   go_ret
   exact ⟨zC7 (zJ4 ⟨h1,h2,hg.out⟩).symm,hbw⟩
def TabIn (w:World) (A:Option Addr) (n:Nat) (X Y:Nat→Int):Prop:=n≤9223372036854775807∧(n=0∨∃b off,A=some ⟨b,off,none⟩∧TabAt w b off n X Y)
theorem TabIn.below {w w':World} {B n:Nat} {A:Option Addr} {X Y:Nat→Int} (h:TabIn w A n X Y) (hB:w.heap.size≤B) (hb:Below B w w'):TabIn w' A n X Y:=by
 refine ⟨h.1,?_⟩
 rcases h.2 with h0 |⟨b,off,hA,ht⟩
 ·exact .inl h0
 ·exact .inr ⟨b,off,hA,ht.below hb (Nat.lt_of_lt_of_le ht.1 hB)⟩
theorem tvalid_out (A:Option Addr) (n c:Nat) (hn:n≤9223372036854775807) (h:n=0∨100<n) (w:World):
 Calls Tryz.prog 158 #[.slice A n c] w fun e w'=>e= .returned (.bool false)∧w=w':=by
 rcases h with rfl |h
 ·go_enter Tryz.func158,Tryz.ntmps158
  go_wp2
  all_goals (go_ret;exact ⟨rfl,rfl⟩)
 ·go_enter Tryz.func158,Tryz.ntmps158
  go_wp2
  all_goals (go_ret;exact ⟨rfl,rfl⟩)
theorem rvalid_out (A:Option Addr) (n c:Nat) (hn:n≤9223372036854775807) (h:n=0∨100<n) (w:World):
 Calls Tryz.prog 147 #[.slice A n c] w fun e w'=>e= .returned (.bool false)∧w=w':=by
 rcases h with rfl |h
 ·go_enter Tryz.func147,Tryz.ntmps147
  go_wp2
  all_goals (go_ret;exact ⟨rfl,rfl⟩)
 ·go_enter Tryz.func147,Tryz.ntmps147
  go_wp2
  all_goals (go_ret;exact ⟨rfl,rfl⟩)
theorem zW5 (A:Option Addr) (n c:Nat) (X Y:Nat→Int) (w:World) (h:TabIn w A n X Y):
 Calls Tryz.prog 158 #[.slice A n c] w fun e w'=>e= .returned (.bool (tabB n X Y))∧Below w.heap.size w w':=by
 by_cases hn:1≤n∧n≤100
 ·rcases h.2 with h0 |⟨b,off,rfl,ht⟩
  ·omega
  ·exact tvalid b off n c X Y w hn.1 hn.2 ht
 ·rw [zG2 (fun h=>hn ⟨h.1,h.2.1⟩)]
  exact (tvalid_out A n c h.1 (by omega) w).mono fun e w' ⟨h1,h2⟩=>⟨h1,h2 ▸ bR _ _⟩
theorem zW7 (A:Option Addr) (n c:Nat) (X Y:Nat→Int) (w:World) (h:TabIn w A n X Y):
 Calls Tryz.prog 147 #[.slice A n c] w fun e w'=>e= .returned (.bool (tabB n X Y))∧Below w.heap.size w w':=by
 by_cases hn:1≤n∧n≤100
 ·rcases h.2 with h0 |⟨b,off,rfl,ht⟩
  ·omega
  ·exact rvalid b off n c X Y w hn.1 hn.2 ht
 ·rw [zG2 (fun h=>hn ⟨h.1,h.2.1⟩)]
  exact (rvalid_out A n c h.1 (by omega) w).mono fun e w' ⟨h1,h2⟩=>⟨h1,h2 ▸ bR _ _⟩
end Go.Proofs.YtchakniaoeodmaaGreatDoor

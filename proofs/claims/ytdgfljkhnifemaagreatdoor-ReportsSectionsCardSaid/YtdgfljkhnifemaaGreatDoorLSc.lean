/- The walk of the law ReportsSections. -/
import Derived.Test.YtdgfljkhnifemaaGreatDoorMgB
import Derived.Test.YtdgfljkhnifemaaGreatDoorLgh
import Derived.Test.YtdgfljkhnifemaaGreatDoorSecS
import Derived.Test.YtdgfljkhnifemaaGreatDoorRSc
import Derived.Test.YtdgfljkhnifemaaGreatDoorPlt
import Derived.Test.YtdgfljkhnifemaaGreatDoorRPl
namespace Go.Proofs.YtdgfljkhnifemaaGreatDoor
open Go.RowKit
set_option linter.unusedVariables false
set_option linter.unusedSimpArgs false

set_option maxRecDepth 100000 in
set_option maxHeartbeats 16000000 in
theorem sections_walk (NA LA CA SA VA : Option Addr) (n nc m lc c cc p pc q qc : Nat) (D : Nds) (K : Lks) (C : Scs) (N : Nat → ByteArray) (Lo Hi : Nat → Int) (wd hh : Int) (hpc : p ≤ pc) (w : World) (hE : Env5 w) (hD : NdIn w NA n D) (hK : LkIn w LA m K) (hC : ScIn w CA c C) (hN : StrIn w SA p N) (hV : TabIn w VA q Lo Hi) :
    Calls Tryz.prog 3 #[.agg #[.slice NA n nc, .slice LA m lc], .slice CA c cc, .slice SA p pc, .slice VA q qc, .int .i64 wd, .int .i64 hh] w fun e w' => e = .returned (.bool true) ∧ Below w.heap.size w w' := by
  have HE := Lib.hid hE
  have HD := Lib.hid hD
  have HK := Lib.hid hK
  have HC := Lib.hid hC
  have HN := Lib.hid hN
  have HV := Lib.hid hV
  have H0 : Hid (Below w.heap.size w (w.alloc (Obj.cells #[.slice NA n nc, .slice LA m lc] 25))) := (Below.refl _ w).alloc (Nat.le_refl _) _
  have HB0 := Lib.hid (Blk.new w 25 #[.slice NA n nc, .slice LA m lc])
  have SAW := Lib.hid fun w hE => caw5 w hE
  have sg := fun w hD hK => tlarge NA LA n nc m lc D K w hD hK
  by_cases h1 : lgP D n K m
  case pos =>
    rw [boolOf_true h1] at sg
    have SG := Lib.hid sg
    clear sg h1 hE hD hK hC hN hV hpc
    go_enter Tryz.func3, Tryz.ntmps3
    go_wp2_with (first
      | (go_at_call 5
         with_reducible refine (SAW.out _ ?_).mono ?_
         focus (exact HE.out.below H0.out)
         rintro e w1 ⟨rfl, hb1⟩
         have H1 := Lib.hid (below_step H0.out hb1)
         have HB1 := Lib.hid (HB0.out.call hb1)
         obtain ⟨d0, d1⟩ := blk2 HB1.out
         clear hb1)
      | (go_at_call 6
         with_reducible refine (SG.out _ ?_ ?_).mono ?_
         focus (exact HD.out.below (Nat.le_refl _) H1.out)
         focus (exact HK.out.below (Nat.le_refl _) H1.out)
         rintro e w2 ⟨rfl, hb2⟩
         have H2 := Lib.hid (below_step H1.out hb2)
         have HB2 := Lib.hid (HB1.out.call hb2)
         obtain ⟨d0, d1⟩ := blk2 HB2.out
         clear hb2))
    go_ret
    exact ⟨rfl, H2.out⟩
  rw [boolOf_false h1] at sg
  have SG := Lib.hid sg
  have sm := fun w hC => tmany CA c cc C w hC
  by_cases h2 : mnP C c
  case pos =>
    rw [boolOf_true h2] at sm
    have SM := Lib.hid sm
    clear sg sm h1 h2 hE hD hK hC hN hV hpc
    go_enter Tryz.func3, Tryz.ntmps3
    go_wp2_with (first
      | (go_at_call 5
         with_reducible refine (SAW.out _ ?_).mono ?_
         focus (exact HE.out.below H0.out)
         rintro e w1 ⟨rfl, hb1⟩
         have H1 := Lib.hid (below_step H0.out hb1)
         have HB1 := Lib.hid (HB0.out.call hb1)
         obtain ⟨d0, d1⟩ := blk2 HB1.out
         clear hb1)
      | (go_at_call 6
         with_reducible refine (SG.out _ ?_ ?_).mono ?_
         focus (exact HD.out.below (Nat.le_refl _) H1.out)
         focus (exact HK.out.below (Nat.le_refl _) H1.out)
         rintro e w2 ⟨rfl, hb2⟩
         have H2 := Lib.hid (below_step H1.out hb2)
         have HB2 := Lib.hid (HB1.out.call hb2)
         obtain ⟨d0, d1⟩ := blk2 HB2.out
         clear hb2)
      | (go_at_call 7
         with_reducible refine (SM.out _ ?_).mono ?_
         focus (exact HC.out.below (Nat.le_refl _) H2.out)
         rintro e w3 ⟨rfl, hb3⟩
         have H3 := Lib.hid (below_step H2.out hb3)
         have HB3 := Lib.hid (HB2.out.call hb3)
         obtain ⟨d0, d1⟩ := blk2 HB3.out
         clear hb3))
    go_ret
    exact ⟨rfl, H3.out⟩
  rw [boolOf_false h2] at sm
  have SM := Lib.hid sm
  have so := fun w hN => tlong SA p pc N w hN
  by_cases h3 : loP N p
  case pos =>
    rw [boolOf_true h3] at so
    have SO := Lib.hid so
    clear sg sm so h1 h2 h3 hE hD hK hC hN hV hpc
    go_enter Tryz.func3, Tryz.ntmps3
    go_wp2_with (first
      | (go_at_call 5
         with_reducible refine (SAW.out _ ?_).mono ?_
         focus (exact HE.out.below H0.out)
         rintro e w1 ⟨rfl, hb1⟩
         have H1 := Lib.hid (below_step H0.out hb1)
         have HB1 := Lib.hid (HB0.out.call hb1)
         obtain ⟨d0, d1⟩ := blk2 HB1.out
         clear hb1)
      | (go_at_call 6
         with_reducible refine (SG.out _ ?_ ?_).mono ?_
         focus (exact HD.out.below (Nat.le_refl _) H1.out)
         focus (exact HK.out.below (Nat.le_refl _) H1.out)
         rintro e w2 ⟨rfl, hb2⟩
         have H2 := Lib.hid (below_step H1.out hb2)
         have HB2 := Lib.hid (HB1.out.call hb2)
         obtain ⟨d0, d1⟩ := blk2 HB2.out
         clear hb2)
      | (go_at_call 7
         with_reducible refine (SM.out _ ?_).mono ?_
         focus (exact HC.out.below (Nat.le_refl _) H2.out)
         rintro e w3 ⟨rfl, hb3⟩
         have H3 := Lib.hid (below_step H2.out hb3)
         have HB3 := Lib.hid (HB2.out.call hb3)
         obtain ⟨d0, d1⟩ := blk2 HB3.out
         clear hb3)
      | (go_at_call 8
         with_reducible refine (SO.out _ ?_).mono ?_
         focus (exact HN.out.below (Nat.le_refl _) H3.out)
         rintro e w4 ⟨rfl, hb4⟩
         have H4 := Lib.hid (below_step H3.out hb4)
         have HB4 := Lib.hid (HB3.out.call hb4)
         obtain ⟨d0, d1⟩ := blk2 HB4.out
         clear hb4))
    go_ret
    exact ⟨rfl, H4.out⟩
  rw [boolOf_false h3] at so
  have SO := Lib.hid so
  by_cases h4 : 20 < q
  case pos =>
    have t1 : decide ((20 : Int) < (q : Int)) = true := decide_eq_true (by omega)
    have t1' : decide (20 < q) = true := decide_eq_true h4
    clear sg sm so h1 h2 h3 h4 hE hD hK hC hN hV hpc
    go_enter Tryz.func3, Tryz.ntmps3
    go_wp2_with (first
      | (go_at_call 5
         with_reducible refine (SAW.out _ ?_).mono ?_
         focus (exact HE.out.below H0.out)
         rintro e w1 ⟨rfl, hb1⟩
         have H1 := Lib.hid (below_step H0.out hb1)
         have HB1 := Lib.hid (HB0.out.call hb1)
         obtain ⟨d0, d1⟩ := blk2 HB1.out
         clear hb1)
      | (go_at_call 6
         with_reducible refine (SG.out _ ?_ ?_).mono ?_
         focus (exact HD.out.below (Nat.le_refl _) H1.out)
         focus (exact HK.out.below (Nat.le_refl _) H1.out)
         rintro e w2 ⟨rfl, hb2⟩
         have H2 := Lib.hid (below_step H1.out hb2)
         have HB2 := Lib.hid (HB1.out.call hb2)
         obtain ⟨d0, d1⟩ := blk2 HB2.out
         clear hb2)
      | (go_at_call 7
         with_reducible refine (SM.out _ ?_).mono ?_
         focus (exact HC.out.below (Nat.le_refl _) H2.out)
         rintro e w3 ⟨rfl, hb3⟩
         have H3 := Lib.hid (below_step H2.out hb3)
         have HB3 := Lib.hid (HB2.out.call hb3)
         obtain ⟨d0, d1⟩ := blk2 HB3.out
         clear hb3)
      | (go_at_call 8
         with_reducible refine (SO.out _ ?_).mono ?_
         focus (exact HN.out.below (Nat.le_refl _) H3.out)
         rintro e w4 ⟨rfl, hb4⟩
         have H4 := Lib.hid (below_step H3.out hb4)
         have HB4 := Lib.hid (HB3.out.call hb4)
         obtain ⟨d0, d1⟩ := blk2 HB4.out
         clear hb4))
    go_ret
    exact ⟨rfl, H4.out⟩
  have t1 : decide ((20 : Int) < (q : Int)) = false := decide_eq_false (by omega)
  have t1' : decide (20 < q) = false := decide_eq_false h4
  obtain ⟨h14, h16, hnd, hlk⟩ := lg_not h1
  obtain ⟨h8, hsc⟩ := mn_not h2
  obtain ⟨hpp, h305, hns⟩ := lo_not h3
  have hz := lg_sz h1
  have hdn : ∀ i, i < n → (D.Nm i).size ≤ 60 := fun i hi => (hnd i hi).2
  have hkn : ∀ i, i < m → (K.Nm i).size ≤ 60 := fun i hi => (hlk i hi).2.1
  have hcn : ∀ i, i < c → (C.Nm i).size ≤ 60 := fun i hi => (hsc i hi).2.2
  have S5 := Lib.hid fun w hE hD hK hC hN hV => tSec NA LA CA SA VA n nc m lc c cc p pc q qc D K C N Lo Hi hz (by omega) hcn (by omega) hpc (by omega) hdn hkn hpp w hE hD hK hC hN hV
  have S6 := Lib.hid fun w hD hK hN hV => tPlot NA LA SA VA n nc m lc p pc q qc D K N Lo Hi wd hh hz (by omega) hpc (by omega) hpp w hD hK hN hV
  have S7 := Lib.hid fun w hD hK hC hN hV => rSec NA LA CA SA VA n nc m lc c cc p pc q qc D K C N Lo Hi hz (by omega) hcn (by omega) (by omega) hdn hkn hpp w hD hK hC hN hV
  have S8 := Lib.hid fun w hD hK hN hV => rPlot NA LA SA VA n nc m lc p pc q qc D K N Lo Hi wd hh hz (by omega) (by omega) hpp w hD hK hN hV
  clear sg sm so h1 h2 h3 h4 hE hD hK hC hN hV hpc h14 h16 hnd hlk h8 hsc hpp h305 hns hz hdn hkn hcn
  go_enter Tryz.func3, Tryz.ntmps3
  go_wp2_with (first
    | (go_at_call 5
       with_reducible refine (SAW.out _ ?_).mono ?_
       focus (exact HE.out.below H0.out)
       rintro e w1 ⟨rfl, hb1⟩
       have H1 := Lib.hid (below_step H0.out hb1)
       have HB1 := Lib.hid (HB0.out.call hb1)
       obtain ⟨d0, d1⟩ := blk2 HB1.out
       clear hb1)
    | (go_at_call 6
       with_reducible refine (SG.out _ ?_ ?_).mono ?_
       focus (exact HD.out.below (Nat.le_refl _) H1.out)
       focus (exact HK.out.below (Nat.le_refl _) H1.out)
       rintro e w2 ⟨rfl, hb2⟩
       have H2 := Lib.hid (below_step H1.out hb2)
       have HB2 := Lib.hid (HB1.out.call hb2)
       obtain ⟨d0, d1⟩ := blk2 HB2.out
       clear hb2)
    | (go_at_call 7
       with_reducible refine (SM.out _ ?_).mono ?_
       focus (exact HC.out.below (Nat.le_refl _) H2.out)
       rintro e w3 ⟨rfl, hb3⟩
       have H3 := Lib.hid (below_step H2.out hb3)
       have HB3 := Lib.hid (HB2.out.call hb3)
       obtain ⟨d0, d1⟩ := blk2 HB3.out
       clear hb3)
    | (go_at_call 8
       with_reducible refine (SO.out _ ?_).mono ?_
       focus (exact HN.out.below (Nat.le_refl _) H3.out)
       rintro e w4 ⟨rfl, hb4⟩
       have H4 := Lib.hid (below_step H3.out hb4)
       have HB4 := Lib.hid (HB3.out.call hb4)
       obtain ⟨d0, d1⟩ := blk2 HB4.out
       clear hb4)
    | (go_at_call 9
       with_reducible refine (S5.out _ ?_ ?_ ?_ ?_ ?_ ?_).mono ?_
       focus (exact HE.out.below H4.out)
       focus (exact HD.out.below (Nat.le_refl _) H4.out)
       focus (exact HK.out.below (Nat.le_refl _) H4.out)
       focus (exact HC.out.below (Nat.le_refl _) H4.out)
       focus (exact HN.out.below (Nat.le_refl _) H4.out)
       focus (exact HV.out.below (Nat.le_refl _) H4.out)
       rintro e w5 ⟨R5, er5, A5, N5, c5, hr5, rfl, hN5, hc5, hs5, hb5⟩
       have H5 := Lib.hid (below_step H4.out hb5)
       have HB5 := Lib.hid (HB4.out.call hb5)
       obtain ⟨d0, d1⟩ := blk2 HB5.out
       have HN5 := Lib.hid hN5
       have HR5 := Lib.hid hr5
       have HSa5 := Lib.hid hs5
       clear hr5 hN5 hc5 hs5
       clear hb5)
    | (go_at_call 10
       with_reducible refine (S6.out _ ?_ ?_ ?_ ?_).mono ?_
       focus (exact HD.out.below (Nat.le_refl _) H5.out)
       focus (exact HK.out.below (Nat.le_refl _) H5.out)
       focus (exact HN.out.below (Nat.le_refl _) H5.out)
       focus (exact HV.out.below (Nat.le_refl _) H5.out)
       rintro e w6 ⟨R6, er6, A6, N6, c6, hr6, rfl, hN6, hc6, hs6, hb6⟩
       have H6 := Lib.hid (below_step H5.out hb6)
       have HB6 := Lib.hid (HB5.out.call hb6)
       obtain ⟨d0, d1⟩ := blk2 HB6.out
       have HN6 := Lib.hid hN6
       have HR6 := Lib.hid hr6
       have HSb6 := Lib.hid hs6
       have HSa6 := Lib.hid (HSa5.out.below (Nat.le_refl _) hb6)
       clear hr6 hN6 hc6 hs6
       clear hb6)
    | (go_at_call 11
       with_reducible refine (S7.out _ ?_ ?_ ?_ ?_ ?_).mono ?_
       focus (exact HD.out.below (Nat.le_refl _) H6.out)
       focus (exact HK.out.below (Nat.le_refl _) H6.out)
       focus (exact HC.out.below (Nat.le_refl _) H6.out)
       focus (exact HN.out.below (Nat.le_refl _) H6.out)
       focus (exact HV.out.below (Nat.le_refl _) H6.out)
       rintro e w7 ⟨R7, er7, A7, N7, c7, hr7, rfl, hN7, hc7, hs7, hb7⟩
       obtain ⟨rfl, rfl⟩ := HR5.out.uniq hr7
       obtain rfl : N7 = N5 := hN7.trans HN5.out.symm
       have H7 := Lib.hid (below_step H6.out hb7)
       have HB7 := Lib.hid (HB6.out.call hb7)
       obtain ⟨d0, d1⟩ := blk2 HB7.out
       have HSc7 := Lib.hid hs7
       have HSa7 := Lib.hid (HSa6.out.below (Nat.le_refl _) hb7)
       have HSb7 := Lib.hid (HSb6.out.below (Nat.le_refl _) hb7)
       clear hr7 hN7 hc7 hs7
       clear hb7)
    | (go_at_call 12
       with_reducible refine (S8.out _ ?_ ?_ ?_ ?_).mono ?_
       focus (exact HD.out.below (Nat.le_refl _) H7.out)
       focus (exact HK.out.below (Nat.le_refl _) H7.out)
       focus (exact HN.out.below (Nat.le_refl _) H7.out)
       focus (exact HV.out.below (Nat.le_refl _) H7.out)
       rintro e w8 ⟨R8, er8, A8, N8, c8, hr8, rfl, hN8, hc8, hs8, hb8⟩
       obtain ⟨rfl, rfl⟩ := HR6.out.uniq hr8
       obtain rfl : N8 = N6 := hN8.trans HN6.out.symm
       have H8 := Lib.hid (below_step H7.out hb8)
       have HB8 := Lib.hid (HB7.out.call hb8)
       obtain ⟨d0, d1⟩ := blk2 HB8.out
       have HSd8 := Lib.hid hs8
       have HSa8 := Lib.hid (HSa7.out.below (Nat.le_refl _) hb8)
       have HSb8 := Lib.hid (HSb7.out.below (Nat.le_refl _) hb8)
       have HSc8 := Lib.hid (HSc7.out.below (Nat.le_refl _) hb8)
       clear hr8 hN8 hc8 hs8
       clear hb8)
    | (go_at_call 13
       with_reducible refine (sequal_same _ _ _ _ _ _ _ HSa8.out HSc8.out).mono ?_
       rintro e w9 ⟨rfl, hb9⟩
       have H9 := Lib.hid (below_step H8.out hb9)
       have HB9 := Lib.hid (HB8.out.call hb9)
       have HSb9 := Lib.hid (HSb8.out.below (Nat.le_refl _) hb9)
       have HSd9 := Lib.hid (HSd8.out.below (Nat.le_refl _) hb9)
       clear hb9)
    | (go_at_call 13
       with_reducible refine (sequal_same _ _ _ _ _ _ _ HSb9.out HSd9.out).mono ?_
       rintro e w10 ⟨rfl, hb10⟩
       have H10 := Lib.hid (below_step H9.out hb10)
       have HB10 := Lib.hid (HB9.out.call hb10)
       clear hb10))
  go_ret
  exact ⟨rfl, H10.out⟩
end Go.Proofs.YtdgfljkhnifemaaGreatDoor

/- The walk of the law ReportsCourses. -/
import Derived.Test.YtdgfljkhnifemaaGreatDoorMgB
import Derived.Test.YtdgfljkhnifemaaGreatDoorLgh
import Derived.Test.YtdgfljkhnifemaaGreatDoorSecS
import Derived.Test.YtdgfljkhnifemaaGreatDoorPlt
import Derived.Test.YtdgfljkhnifemaaGreatDoorCoP
namespace Go.Proofs.YtdgfljkhnifemaaGreatDoor
open Go.RowKit
set_option linter.unusedVariables false
set_option linter.unusedSimpArgs false

/-- A higher level lies in no lower row. -/
theorem rowZ_anti {top bot h z z' : Int} (hh : 1 ≤ h) (hz : z ≤ z') : rowZ top bot h z' ≤ rowZ top bot h z := by
  have a := rowZ_bd (top := top) (bot := bot) (z := z) hh
  have b := rowZ_bd (top := top) (bot := bot) (z := z') hh
  by_cases h1 : top ≤ z'
  · have : rowZ top bot h z' = 0 := by unfold rowZ; rw [if_pos h1]
    omega
  by_cases h2 : z < bot
  · have : rowZ top bot h z = h - 1 := by unfold rowZ; rw [if_neg (by omega), if_pos h2]
    omega
  · have e1 : rowZ top bot h z' = (top - z') * (h - 1) / (top - bot) := by unfold rowZ; rw [if_neg h1, if_neg (by omega)]
    have e2 : rowZ top bot h z = (top - z) * (h - 1) / (top - bot) := by unfold rowZ; rw [if_neg (by omega), if_neg h2]
    rw [e1, e2]
    exact Int.ediv_le_ediv (by omega) (Int.mul_le_mul_of_nonneg_right (by omega) (by omega))
set_option maxRecDepth 100000 in
set_option maxHeartbeats 32000000 in
theorem courses_walk (NA LA CA SA VA : Option Addr) (n nc m lc c cc p pc q qc : Nat) (D : Nds) (K : Lks) (C : Scs) (N : Nat → ByteArray) (Lo Hi : Nat → Int) (wd hh : Int) (hpc : p ≤ pc) (w : World) (hE : Env5 w) (hD : NdIn w NA n D) (hK : LkIn w LA m K) (hC : ScIn w CA c C) (hN : StrIn w SA p N) (hV : TabIn w VA q Lo Hi) :
    Calls Tryz.prog 4 #[.agg #[.slice NA n nc, .slice LA m lc], .slice CA c cc, .slice SA p pc, .slice VA q qc, .int .i64 wd, .int .i64 hh] w fun e w' => e = .returned (.bool true) ∧ Below w.heap.size w w' := by
  have HE := Lib.hid hE
  have HD := Lib.hid hD
  have HK := Lib.hid hK
  have HC := Lib.hid hC
  have HN := Lib.hid hN
  have HV := Lib.hid hV
  have H0 : Hid (Below w.heap.size w (w.alloc (Obj.cells #[.slice NA n nc, .slice LA m lc] 25))) := (Below.refl _ w).alloc (Nat.le_refl _) _
  have HB0 := Lib.hid (Blk.new w 25 #[.slice NA n nc, .slice LA m lc])
  have SAW := Lib.hid fun w hE => caw5 w hE
  have sg := fun w hD hK => tlarge NA LA n nc m lc D K w hD hK
  by_cases h1 : lgP D n K m
  case pos =>
    rw [boolOf_true h1] at sg
    have SG := Lib.hid sg
    clear sg h1 hE hD hK hC hN hV hpc
    go_enter Tryz.func4, Tryz.ntmps4
    go_wp2_with (first
      | (go_at_call 5
         with_reducible refine (SAW.out _ ?_).mono ?_
         focus (exact HE.out.below H0.out)
         rintro e w1 ⟨rfl, hb1⟩
         have H1 := Lib.hid (below_step H0.out hb1)
         have HB1 := Lib.hid (HB0.out.call hb1)
         obtain ⟨d0, d1⟩ := blk2 HB1.out
         clear hb1)
      | (go_at_call 6
         with_reducible refine (SG.out _ ?_ ?_).mono ?_
         focus (exact HD.out.below (Nat.le_refl _) H1.out)
         focus (exact HK.out.below (Nat.le_refl _) H1.out)
         rintro e w2 ⟨rfl, hb2⟩
         have H2 := Lib.hid (below_step H1.out hb2)
         have HB2 := Lib.hid (HB1.out.call hb2)
         obtain ⟨d0, d1⟩ := blk2 HB2.out
         clear hb2))
    go_ret
    exact ⟨rfl, H2.out⟩
  rw [boolOf_false h1] at sg
  have SG := Lib.hid sg
  have sm := fun w hC => tmany CA c cc C w hC
  by_cases h2 : mnP C c
  case pos =>
    rw [boolOf_true h2] at sm
    have SM := Lib.hid sm
    clear sg sm h1 h2 hE hD hK hC hN hV hpc
    go_enter Tryz.func4, Tryz.ntmps4
    go_wp2_with (first
      | (go_at_call 5
         with_reducible refine (SAW.out _ ?_).mono ?_
         focus (exact HE.out.below H0.out)
         rintro e w1 ⟨rfl, hb1⟩
         have H1 := Lib.hid (below_step H0.out hb1)
         have HB1 := Lib.hid (HB0.out.call hb1)
         obtain ⟨d0, d1⟩ := blk2 HB1.out
         clear hb1)
      | (go_at_call 6
         with_reducible refine (SG.out _ ?_ ?_).mono ?_
         focus (exact HD.out.below (Nat.le_refl _) H1.out)
         focus (exact HK.out.below (Nat.le_refl _) H1.out)
         rintro e w2 ⟨rfl, hb2⟩
         have H2 := Lib.hid (below_step H1.out hb2)
         have HB2 := Lib.hid (HB1.out.call hb2)
         obtain ⟨d0, d1⟩ := blk2 HB2.out
         clear hb2)
      | (go_at_call 7
         with_reducible refine (SM.out _ ?_).mono ?_
         focus (exact HC.out.below (Nat.le_refl _) H2.out)
         rintro e w3 ⟨rfl, hb3⟩
         have H3 := Lib.hid (below_step H2.out hb3)
         have HB3 := Lib.hid (HB2.out.call hb3)
         obtain ⟨d0, d1⟩ := blk2 HB3.out
         clear hb3))
    go_ret
    exact ⟨rfl, H3.out⟩
  rw [boolOf_false h2] at sm
  have SM := Lib.hid sm
  have so := fun w hN => tlong SA p pc N w hN
  by_cases h3 : loP N p
  case pos =>
    rw [boolOf_true h3] at so
    have SO := Lib.hid so
    clear sg sm so h1 h2 h3 hE hD hK hC hN hV hpc
    go_enter Tryz.func4, Tryz.ntmps4
    go_wp2_with (first
      | (go_at_call 5
         with_reducible refine (SAW.out _ ?_).mono ?_
         focus (exact HE.out.below H0.out)
         rintro e w1 ⟨rfl, hb1⟩
         have H1 := Lib.hid (below_step H0.out hb1)
         have HB1 := Lib.hid (HB0.out.call hb1)
         obtain ⟨d0, d1⟩ := blk2 HB1.out
         clear hb1)
      | (go_at_call 6
         with_reducible refine (SG.out _ ?_ ?_).mono ?_
         focus (exact HD.out.below (Nat.le_refl _) H1.out)
         focus (exact HK.out.below (Nat.le_refl _) H1.out)
         rintro e w2 ⟨rfl, hb2⟩
         have H2 := Lib.hid (below_step H1.out hb2)
         have HB2 := Lib.hid (HB1.out.call hb2)
         obtain ⟨d0, d1⟩ := blk2 HB2.out
         clear hb2)
      | (go_at_call 7
         with_reducible refine (SM.out _ ?_).mono ?_
         focus (exact HC.out.below (Nat.le_refl _) H2.out)
         rintro e w3 ⟨rfl, hb3⟩
         have H3 := Lib.hid (below_step H2.out hb3)
         have HB3 := Lib.hid (HB2.out.call hb3)
         obtain ⟨d0, d1⟩ := blk2 HB3.out
         clear hb3)
      | (go_at_call 8
         with_reducible refine (SO.out _ ?_).mono ?_
         focus (exact HN.out.below (Nat.le_refl _) H3.out)
         rintro e w4 ⟨rfl, hb4⟩
         have H4 := Lib.hid (below_step H3.out hb4)
         have HB4 := Lib.hid (HB3.out.call hb4)
         obtain ⟨d0, d1⟩ := blk2 HB4.out
         clear hb4))
    go_ret
    exact ⟨rfl, H4.out⟩
  rw [boolOf_false h3] at so
  have SO := Lib.hid so
  by_cases h35 : 30 < p
  case pos =>
    have t0 : decide ((30 : Int) < (p : Int)) = true := decide_eq_true (by omega)
    have t0' : decide (30 < p) = true := decide_eq_true h35
    clear sg sm so h1 h2 h3 h35 hE hD hK hC hN hV hpc
    go_enter Tryz.func4, Tryz.ntmps4
    go_wp2_with (first
      | (go_at_call 5
         with_reducible refine (SAW.out _ ?_).mono ?_
         focus (exact HE.out.below H0.out)
         rintro e w1 ⟨rfl, hb1⟩
         have H1 := Lib.hid (below_step H0.out hb1)
         have HB1 := Lib.hid (HB0.out.call hb1)
         obtain ⟨d0, d1⟩ := blk2 HB1.out
         clear hb1)
      | (go_at_call 6
         with_reducible refine (SG.out _ ?_ ?_).mono ?_
         focus (exact HD.out.below (Nat.le_refl _) H1.out)
         focus (exact HK.out.below (Nat.le_refl _) H1.out)
         rintro e w2 ⟨rfl, hb2⟩
         have H2 := Lib.hid (below_step H1.out hb2)
         have HB2 := Lib.hid (HB1.out.call hb2)
         obtain ⟨d0, d1⟩ := blk2 HB2.out
         clear hb2)
      | (go_at_call 7
         with_reducible refine (SM.out _ ?_).mono ?_
         focus (exact HC.out.below (Nat.le_refl _) H2.out)
         rintro e w3 ⟨rfl, hb3⟩
         have H3 := Lib.hid (below_step H2.out hb3)
         have HB3 := Lib.hid (HB2.out.call hb3)
         obtain ⟨d0, d1⟩ := blk2 HB3.out
         clear hb3)
      | (go_at_call 8
         with_reducible refine (SO.out _ ?_).mono ?_
         focus (exact HN.out.below (Nat.le_refl _) H3.out)
         rintro e w4 ⟨rfl, hb4⟩
         have H4 := Lib.hid (below_step H3.out hb4)
         have HB4 := Lib.hid (HB3.out.call hb4)
         obtain ⟨d0, d1⟩ := blk2 HB4.out
         clear hb4))
    go_ret
    exact ⟨rfl, H4.out⟩
  have t0 : decide ((30 : Int) < (p : Int)) = false := decide_eq_false (by omega)
  have t0' : decide (30 < p) = false := decide_eq_false h35
  by_cases h4 : 20 < q
  case pos =>
    have t1 : decide ((20 : Int) < (q : Int)) = true := decide_eq_true (by omega)
    have t1' : decide (20 < q) = true := decide_eq_true h4
    clear sg sm so h1 h2 h3 h35 h4 hE hD hK hC hN hV hpc
    go_enter Tryz.func4, Tryz.ntmps4
    go_wp2_with (first
      | (go_at_call 5
         with_reducible refine (SAW.out _ ?_).mono ?_
         focus (exact HE.out.below H0.out)
         rintro e w1 ⟨rfl, hb1⟩
         have H1 := Lib.hid (below_step H0.out hb1)
         have HB1 := Lib.hid (HB0.out.call hb1)
         obtain ⟨d0, d1⟩ := blk2 HB1.out
         clear hb1)
      | (go_at_call 6
         with_reducible refine (SG.out _ ?_ ?_).mono ?_
         focus (exact HD.out.below (Nat.le_refl _) H1.out)
         focus (exact HK.out.below (Nat.le_refl _) H1.out)
         rintro e w2 ⟨rfl, hb2⟩
         have H2 := Lib.hid (below_step H1.out hb2)
         have HB2 := Lib.hid (HB1.out.call hb2)
         obtain ⟨d0, d1⟩ := blk2 HB2.out
         clear hb2)
      | (go_at_call 7
         with_reducible refine (SM.out _ ?_).mono ?_
         focus (exact HC.out.below (Nat.le_refl _) H2.out)
         rintro e w3 ⟨rfl, hb3⟩
         have H3 := Lib.hid (below_step H2.out hb3)
         have HB3 := Lib.hid (HB2.out.call hb3)
         obtain ⟨d0, d1⟩ := blk2 HB3.out
         clear hb3)
      | (go_at_call 8
         with_reducible refine (SO.out _ ?_).mono ?_
         focus (exact HN.out.below (Nat.le_refl _) H3.out)
         rintro e w4 ⟨rfl, hb4⟩
         have H4 := Lib.hid (below_step H3.out hb4)
         have HB4 := Lib.hid (HB3.out.call hb4)
         obtain ⟨d0, d1⟩ := blk2 HB4.out
         clear hb4))
    go_ret
    exact ⟨rfl, H4.out⟩
  have t1 : decide ((20 : Int) < (q : Int)) = false := decide_eq_false (by omega)
  have t1' : decide (20 < q) = false := decide_eq_false h4
  obtain ⟨h14, h16, hnd, hlk⟩ := lg_not h1
  obtain ⟨h8, hsc⟩ := mn_not h2
  obtain ⟨hpp, h305, hns⟩ := lo_not h3
  have hz := lg_sz h1
  have hdn : ∀ i, i < n → (D.Nm i).size ≤ 60 := fun i hi => (hnd i hi).2
  have hkn : ∀ i, i < m → (K.Nm i).size ≤ 60 := fun i hi => (hlk i hi).2.1
  have hcn : ∀ i, i < c → (C.Nm i).size ≤ 60 := fun i hi => (hsc i hi).2.2
  have S5 := Lib.hid fun w hE hD hK hC hN hV => tSec NA LA CA SA VA n nc m lc c cc p pc q qc D K C N Lo Hi hz (by omega) hcn (by omega) hpc (by omega) hdn hkn hpp w hE hD hK hC hN hV
  have S6 := Lib.hid fun w hD hK hN hV => tPlot NA LA SA VA n nc m lc p pc q qc D K N Lo Hi wd hh hz (by omega) hpc (by omega) hpp w hD hK hN hV
  have SFL := Lib.hid fun s w hK => r_link NA LA n nc m lc K s w hz.m2 hK
  have SFN := Lib.hid fun s w hD => r_node NA LA n nc m lc D s w hz.n2 hD
  have HP30 : Hid (p ≤ 30 ∧ q ≤ 20 ∧ n ≤ 14) := by show _ ∧ _; omega
  have HDN := Lib.hid hdn
  have HKN := Lib.hid hkn
  clear sg sm so h1 h2 h3 h35 h4 hE hD hK hC hN hV hpc h14 h16 hnd hlk h8 hsc hpp h305 hns hz hdn hkn hcn
  go_enter Tryz.func4, Tryz.ntmps4
  go_upto_region 6 with (first
    | (go_at_call 5
       with_reducible refine (SAW.out _ ?_).mono ?_
       focus (exact HE.out.below H0.out)
       rintro e w1 ⟨rfl, hb1⟩
       have H1 := Lib.hid (below_step H0.out hb1)
       have HB1 := Lib.hid (HB0.out.call hb1)
       obtain ⟨d0, d1⟩ := blk2 HB1.out
       clear hb1)
    | (go_at_call 6
       with_reducible refine (SG.out _ ?_ ?_).mono ?_
       focus (exact HD.out.below (Nat.le_refl _) H1.out)
       focus (exact HK.out.below (Nat.le_refl _) H1.out)
       rintro e w2 ⟨rfl, hb2⟩
       have H2 := Lib.hid (below_step H1.out hb2)
       have HB2 := Lib.hid (HB1.out.call hb2)
       obtain ⟨d0, d1⟩ := blk2 HB2.out
       clear hb2)
    | (go_at_call 7
       with_reducible refine (SM.out _ ?_).mono ?_
       focus (exact HC.out.below (Nat.le_refl _) H2.out)
       rintro e w3 ⟨rfl, hb3⟩
       have H3 := Lib.hid (below_step H2.out hb3)
       have HB3 := Lib.hid (HB2.out.call hb3)
       obtain ⟨d0, d1⟩ := blk2 HB3.out
       clear hb3)
    | (go_at_call 8
       with_reducible refine (SO.out _ ?_).mono ?_
       focus (exact HN.out.below (Nat.le_refl _) H3.out)
       rintro e w4 ⟨rfl, hb4⟩
       have H4 := Lib.hid (below_step H3.out hb4)
       have HB4 := Lib.hid (HB3.out.call hb4)
       obtain ⟨d0, d1⟩ := blk2 HB4.out
       clear hb4)
    | (go_at_call 9
       with_reducible refine (S5.out _ ?_ ?_ ?_ ?_ ?_ ?_).mono ?_
       focus (exact HE.out.below H4.out)
       focus (exact HD.out.below (Nat.le_refl _) H4.out)
       focus (exact HK.out.below (Nat.le_refl _) H4.out)
       focus (exact HC.out.below (Nat.le_refl _) H4.out)
       focus (exact HN.out.below (Nat.le_refl _) H4.out)
       focus (exact HV.out.below (Nat.le_refl _) H4.out)
       rintro e w5 ⟨R5, er5, A5, N5, c5, hr5, rfl, hN5, hc5, hs5, hb5⟩
       have H5 := Lib.hid (below_step H4.out hb5)
       have HB5 := Lib.hid (HB4.out.call hb5)
       obtain ⟨d0, d1⟩ := blk2 HB5.out
       have HN5 := Lib.hid hN5
       have HR5 := Lib.hid hr5
       have HSa5 := Lib.hid hs5
       clear hr5 hN5 hs5
       clear hb5))
  clear t0 t0' t1 t1' S5 SG SM SO SAW H0 H1 H2 H3 H4 HB0 HB1 HB2 HB3 HB4
  by_cases g5 : er5 = 0
  case neg =>
    have t5 : (er5 == 0) = false := by simpa using g5
    have hN0 : N5 = 0 := by
      rw [HN5.out]
      rcases HR5.out with _ | _ | _ | _
      · rfl
      · rfl
      · rfl
      · exact absurd rfl g5
    clear g5
    subst hN0
    have HW6 := H5
    have HB6 := HB5
    generalize w5 = w6 at HW6 HB6 ⊢
    clear HR5 HN5
    clear HSa5 HB5 HE HC SFL SFN HDN HKN H5
    obtain ⟨d0, d1⟩ := blk2 HB6.out
    go_upto_region 26 with (first
      | (go_at_call 10
         with_reducible refine (S6.out _ ?_ ?_ ?_ ?_).mono ?_
         focus (exact HD.out.below (Nat.le_refl _) HW6.out)
         focus (exact HK.out.below (Nat.le_refl _) HW6.out)
         focus (exact HN.out.below (Nat.le_refl _) HW6.out)
         focus (exact HV.out.below (Nat.le_refl _) HW6.out)
         rintro e w7 ⟨R7, er7, A7, N7, c7, hr7, rfl, hN7, hc7, hs7, hb7⟩
         have H7 := Lib.hid (below_step HW6.out hb7)
         have HB7 := Lib.hid (HB6.out.call hb7)
         obtain ⟨d0, d1⟩ := blk2 HB7.out
         have HN7 := Lib.hid hN7
         have HR7 := Lib.hid hr7
         have HSb7 := Lib.hid hs7
         clear hr7 hN7 hs7
         clear hb7))
    clear d0 d1 S6 HB6 HW6 HB7
    by_cases g7 : er7 = 0
    case neg =>
      have t7 : (er7 == 0) = false := by simpa using g7
      have t7n : (er7 != 0) = true := by simpa using g7
      have hN0 : N7 = 0 := by
        rw [HN7.out]
        rcases HR7.out with _ | _ | _ | _
        · rfl
        · rfl
        · rfl
        · exact absurd rfl g7
      clear g7
      subst hN0
      go_wp2_with fail
      go_ret
      exact ⟨rfl, H7.out⟩
    have t7 : (er7 == 0) = true := by simpa using g7
    have t7n : (er7 != 0) = false := by simpa using g7
    have hS : vlP D n K m q Lo Hi ∧ crsE D n K m N p q = 0 ∧ (1 ≤ wd ∧ wd ≤ 200 ∧ 2 ≤ hh ∧ hh ≤ 100) ∧ R7 = prows D n N p Hi wd.toNat hh hh.toNat := by
      rcases HR7.out with h | ⟨_, h⟩ | _ | ⟨a, b, d⟩
      · exact absurd g7 (by decide)
      · exact absurd g7 h
      · exact absurd g7 (by decide)
      · exact ⟨a, b, d, rfl⟩
    obtain ⟨v1, v2, v3, rfl⟩ := hS
    obtain ⟨WD, rfl⟩ : ∃ z : Nat, wd = (z : Int) := ⟨wd.toNat, by omega⟩
    obtain ⟨H, rfl⟩ : ∃ z : Nat, hh = (z : Int) := ⟨hh.toNat, by omega⟩
    simp only [Int.toNat_natCast] at HR7 HN7 HSb7
    obtain ⟨z1, z2, z3, z4, z5⟩ := crsE_zero v2
    have HRG : Hid (1 ≤ WD ∧ WD ≤ 200 ∧ 2 ≤ H ∧ H ≤ 100) := by show _ ∧ _; omega
    obtain rfl : N7 = H := by rw [HN7.out, prows_len]
    have HGB : Hid (∀ i, i < p → D.Iv (ndI D n N i) ≤ D.Gd (ndI D n N i)) := fun i hi => by
      obtain ⟨_, _, _, ⟨a1, a2⟩, a3⟩ := (v1.1.2.2.1 _ (ndI_at (z4 i hi)).1).1
      rcases a3 with ⟨_, a3, _⟩ | ⟨_, a3, _⟩ <;> omega
    have HP1 : Hid (1 ≤ p) := z2
    have cB : ∃ b7 o7, A7 = some ⟨b7, o7, none⟩ ∧ b7 < w7.heap.size ∧ ∀ k, k < N7 → w7.cell? ⟨b7, o7 + k, none⟩ = some (.string (prow D n N p Hi WD (N7 : Int) (k : Int) WD)) := by
      obtain ⟨b7, o7, e7, hb7, _⟩ := HSb7.out.at (by omega : 0 < N7)
      refine ⟨b7, o7, e7, hb7, fun k hk => ?_⟩
      obtain ⟨b7', o7', e7', _, c7'⟩ := HSb7.out.at hk
      rw [e7] at e7'
      cases e7'
      rw [c7']
      unfold prows
      simp [hk]
    obtain ⟨b7, o7, rfl, hb7, hc7⟩ := cB
    have HCB : Hid (∀ W, Below w7.heap.size w7 W → ∀ k, k < N7 → W.cell? ⟨b7, o7 + k, none⟩ = some (.string (prow D n N p Hi WD (N7 : Int) (k : Int) WD))) := fun W hW k hk => (hW.cell (p := ⟨b7, o7 + k, none⟩) hb7).trans (hc7 k hk)
    clear g7 v1 v2 v3 z1 z2 z3 z4 z5 HR7 HN7 HSb7 hb7 hc7
    go_wp2_with fail
    clear t7 t7n
    go_loopw [191] (fun u wr => ∃ i : Nat, Hid (i ≤ WD) ∧ u = .int .i64 i ∧ Hid (Below w7.heap.size w7 wr)) (fun u _ => WD - (RowKit.intOf u).toNat)
    case atStart => exact ⟨0, Nat.zero_le _, rfl, Below.refl _ _⟩
    case round =>
      obtain ⟨i, Hi0, rfl, HQ⟩ := hrel
      by_cases hlt : i < WD
      · have T0 : decide ((i : Int) < (WD : Int)) = true := by simp <;> omega
        have T0' : decide (i < WD) = true := decide_eq_true hlt
        obtain ⟨i', hi'⟩ : ∃ z, z = i + 1 := ⟨_, rfl⟩
        have x0 : IntKind.i64.wrap ((i : Int) + 1) = (i' : Int) := by have := HRG.out; rw [IntKind.wrap_i64]; omega
        have HMS : Hid (WD - (RowKit.intOf (Value.int .i64 (i' : Int))).toNat < WD - (RowKit.intOf (Value.int .i64 (i : Int))).toNat) := by show _ < _; simp [RowKit.intOf]; omega
        have HI' : Hid (i' ≤ WD) := by show i' ≤ WD; omega
        have HLI := Lib.hid hlt
        have hid : i * p / WD < p := Nat.div_lt_of_lt_mul (Nat.mul_lt_mul_of_pos_right hlt HP1.out)
        have hgi := HGB.out _ hid
        obtain ⟨y, hy⟩ : ∃ z, z = ndI D n N (i * p / WD) := ⟨_, rfl⟩
        rw [← hy] at hgi
        have HH1 : Hid ((1 : Int) ≤ (N7 : Int)) := by show (1 : Int) ≤ _; have := HRG.out; omega
        obtain ⟨ri, hri⟩ : ∃ z : Nat, (z : Int) = rowZ (pTop D n N p) (pBot D n N p) (N7 : Int) (D.Iv y) := ⟨(rowZ (pTop D n N p) (pBot D n N p) (N7 : Int) (D.Iv y)).toNat, Int.toNat_of_nonneg (rowZ_bd HH1.out).1⟩
        obtain ⟨rg, hrg⟩ : ∃ z : Nat, (z : Int) = rowZ (pTop D n N p) (pBot D n N p) (N7 : Int) (D.Gd y) := ⟨(rowZ (pTop D n N p) (pBot D n N p) (N7 : Int) (D.Gd y)).toNat, Int.toNat_of_nonneg (rowZ_bd HH1.out).1⟩
        have hri2 := (rowZ_bd (top := pTop D n N p) (bot := pBot D n N p) (h := (N7 : Int)) (z := D.Iv y) HH1.out).2
        have hgr := rowZ_anti (top := pTop D n N p) (bot := pBot D n N p) (h := (N7 : Int)) HH1.out hgi
        have HRR : Hid (ri < N7 ∧ rg ≤ ri) := by show _ ∧ _; omega
        have HCH : Hid (∀ k : Nat, (k = ri → pch D n N p Hi WD (N7 : Int) (k : Int) i = 95) ∧ (k ≠ ri → k = rg → pch D n N p Hi WD (N7 : Int) (k : Int) i = 61) ∧ (k ≠ ri → k ≠ rg → pch D n N p Hi WD (N7 : Int) (k : Int) i = 126 ∨ pch D n N p Hi WD (N7 : Int) (k : Int) i = 32)) := fun k => by
          unfold pch chr
          rw [← hy, ← hri, ← hrg]
          refine ⟨fun e => if_pos (by omega), fun e1 e2 => ?_, fun e1 e2 => ?_⟩
          · rw [if_neg (by omega), if_pos (by omega)]
          · rw [if_neg (by omega), if_neg (by omega)]
            split
            · exact .inl rfl
            · exact .inr rfl
        clear hlt hi' hid hgi hy hri hrg hri2 hgr
        have e0 : (-1 : Int) = gnd ri rg 0 := by unfold gnd; rw [if_neg (by omega)]
        have e1 : (-1 : Int) = inv ri 0 := by unfold inv; rw [if_neg (by omega)]
        go_wp2_with fail
        go_loopw [26, 27, 196] (fun u v z wr => ∃ k : Nat, Hid (k ≤ N7) ∧ u = .int .i64 (gnd ri rg k) ∧ v = .int .i64 (inv ri k) ∧ z = .int .i64 k ∧ Hid (Below w7.heap.size w7 wr)) (fun _ _ z _ => N7 - (RowKit.intOf z).toNat)
        case atStart => exact ⟨0, Nat.zero_le _, by rw [e0], by rw [e1], rfl, HQ⟩
        case round =>
          clear e0 e1 HQ
          obtain ⟨k, Hk, rfl, rfl, rfl, HQ⟩ := hrel
          by_cases hlt : k < N7
          · have T1 : decide ((k : Int) < (N7 : Int)) = true := by simp <;> omega
            have T1' : decide (k < N7) = true := decide_eq_true hlt
            obtain ⟨k', hk'⟩ : ∃ z, z = k + 1 := ⟨_, rfl⟩
            have y0 : IntKind.i64.wrap ((k : Int) + 1) = (k' : Int) := by have := HRG.out; rw [IntKind.wrap_i64]; omega
            have HM9 : Hid (N7 - (RowKit.intOf (Value.int .i64 (k' : Int))).toNat < N7 - (RowKit.intOf (Value.int .i64 (k : Int))).toNat) := by show _ < _; simp [RowKit.intOf]; omega
            have HI9 : Hid (k' ≤ N7) := by show k' ≤ N7; omega
            have b0 : (0 : Int) ≤ (k : Int) := by omega
            have b1 : (k : Int) < (N7 : Int) := by omega
            have b2 : k < N7 := hlt
            have cS := HCB.out wr HQ.out k hlt
            have hps := prow_size D n N p Hi WD (N7 : Int) (k : Int) WD
            have hps2 : ((prow D n N p Hi WD (N7 : Int) (k : Int) WD).size : Int) = (WD : Int) := by rw [hps]
            have hidx : ∀ W, (Instr.index 9 (.string (prow D n N p Hi WD (N7 : Int) (k : Int) WD)) (.int .i64 (i : Int))).run Tryz.prog W = .ok (.int .u8 ((pch D n N p Hi WD (N7 : Int) (k : Int) i).toNat : Int)) W := fun W => by
              rw [run_index_string W 9 _ .i64 (i : Int) Tryz.underlying9]
              have hli := HLI.out
              rw [dif_pos ⟨by omega, by omega⟩]
              have : (prow D n N p Hi WD (N7 : Int) (k : Int) WD)[(i : Int).toNat]'(by omega) = pch D n N p Hi WD (N7 : Int) (k : Int) i := by
                show ((List.range WD).map (pch D n N p Hi WD (N7 : Int) (k : Int))).toArray[(i : Int).toNat]'(by simpa using hli) = _
                simp
              rw [this]
            obtain ⟨p1, p2, p3⟩ := HCH.out k
            generalize prow D n N p Hi WD (N7 : Int) (k : Int) WD = s0 at cS hps hps2 hidx
            generalize pch D n N p Hi WD (N7 : Int) (k : Int) i = ch at hidx p1 p2 p3
            clear hps
            by_cases e1 : k = ri
            · have hc := p1 e1
              subst hc
              have E1 : Hid (gnd ri rg k' = gnd ri rg k) := by
                show _ = _
                rw [hk']
                have := HRR.out
                by_cases g : rg = ri
                · exact gnd_same (.inr g)
                · exact gnd_same (.inl (by omega))
              have E2 : Hid (inv ri k' = (k : Int)) := by
                show _ = _
                rw [hk']
                exact inv_new e1
              clear hlt hk' e1 p1 p2 p3
              go_wp2_with fail
              go_roundw
              case rel => exact ⟨k', HI9, by rw [E1.out], by rw [E2.out], rfl, HQ⟩
              case measure => exact HM9.out
            · by_cases e2 : k = rg
              · have hc := p2 e1 e2
                subst hc
                have E1 : Hid (gnd ri rg k' = (k : Int)) := by
                  show _ = _
                  rw [hk']
                  exact gnd_new e2 e1
                have E2 : Hid (inv ri k' = inv ri k) := by
                  show _ = _
                  rw [hk']
                  exact inv_same e1
                clear hlt hk' e1 e2 p1 p2 p3
                go_wp2_with fail
                go_roundw
                case rel => exact ⟨k', HI9, by rw [E1.out], by rw [E2.out], rfl, HQ⟩
                case measure => exact HM9.out
              · have E1 : Hid (gnd ri rg k' = gnd ri rg k) := by
                  show _ = _
                  rw [hk']
                  exact gnd_same (.inl e2)
                have E2 : Hid (inv ri k' = inv ri k) := by
                  show _ = _
                  rw [hk']
                  exact inv_same e1
                rcases p3 e1 e2 with hc | hc
                · subst hc
                  clear hlt hk' e1 e2 p1 p2 p3
                  go_wp2_with fail
                  go_roundw
                  case rel => exact ⟨k', HI9, by rw [E1.out], by rw [E2.out], rfl, HQ⟩
                  case measure => exact HM9.out
                · subst hc
                  clear hlt hk' e1 e2 p1 p2 p3
                  go_wp2_with fail
                  go_roundw
                  case rel => exact ⟨k', HI9, by rw [E1.out], by rw [E2.out], rfl, HQ⟩
                  case measure => exact HM9.out
          · have T1 : decide ((k : Int) < (N7 : Int)) = false := by simp <;> omega
            have T1' : decide (k < N7) = false := decide_eq_false hlt
            obtain rfl : N7 = k := by have := Hk.out; omega
            have E2 : inv ri N7 = (ri : Int) := by unfold inv; rw [if_pos HRR.out.1]
            obtain ⟨g, hg⟩ : ∃ z, z = gnd ri rg N7 := ⟨_, rfl⟩
            have hgl : g ≤ (ri : Int) := by
              have := HRR.out
              rw [hg]
              unfold gnd
              by_cases e : rg < N7 ∧ rg ≠ ri
              · rw [if_pos e]; omega
              · rw [if_neg e]; omega
            rw [E2, ← hg]
            have z0 : decide ((ri : Int) < 0) = false := decide_eq_false (by omega)
            have z1 : decide ((ri : Int) < g) = false := decide_eq_false (by omega)
            clear hlt hg hgl E2
            go_wp2_with fail
            go_roundw
            case rel => exact ⟨i', HI', rfl, HQ⟩
            case measure => exact HMS.out
      · have T0 : decide ((i : Int) < (WD : Int)) = false := by simp <;> omega
        have T0' : decide (i < WD) = false := decide_eq_false hlt
        clear hlt
        go_wp2_with fail
        go_ret
        exact ⟨rfl, below_step H7.out HQ.out⟩
  have t5 : (er5 == 0) = true := by simpa using g5
  have hS : vlP D n K m q Lo Hi ∧ crsE D n K m N p q = 0 ∧ R5 = sall D n K m C c N Lo Hi p := by
    rcases HR5.out with h | ⟨_, _, h⟩ | _ | ⟨a, _, b, _⟩
    · exact absurd g5 (by decide)
    · exact absurd g5 h
    · exact absurd g5 (by decide)
    · exact ⟨a, b, rfl⟩
  obtain ⟨v1, v2, rfl⟩ := hS
  obtain ⟨z1, z2, z3, z4, z5⟩ := crsE_zero v2
  have HGX := Lib.hid v1
  have HF := Lib.hid z4
  have HBT := Lib.hid z5
  have HPQ : Hid (1 ≤ p ∧ q = n) := ⟨z2, z1⟩
  have HL : Hid (N5 + 1 = 2 * p) := by show _ = _; rw [HN5.out, sall_len z2]; omega
  obtain ⟨pp, hpp⟩ : ∃ z, z = 2 * p := ⟨_, rfl⟩
  have y1 : IntKind.i64.wrap (2 * (p : Int)) = (pp : Int) := by have := HP30.out; rw [IntKind.wrap_i64]; omega
  have y2 : IntKind.i64.wrap ((pp : Int) - 1) = (N5 : Int) := by have := HP30.out; have := HL.out; rw [IntKind.wrap_i64]; omega
  clear g5 v1 v2 z1 z2 z3 z4 z5 HR5 HN5 hpp hc5
  go_wp2_with fail
  clear t5 y1 y2
  go_loopw [71] (fun u wr => ∃ i : Nat, Hid (i ≤ N5) ∧ u = .int .i64 i ∧ Hid (Below w5.heap.size w5 wr)) (fun u _ => N5 - (RowKit.intOf u).toNat)
  case atStart => exact ⟨0, Nat.zero_le _, rfl, Below.refl _ _⟩
  case round =>
    obtain ⟨i, Hi0, rfl, HQ⟩ := hrel
    by_cases hlt : i < N5
    · have T0 : decide ((i : Int) < (N5 : Int)) = true := by simp <;> omega
      have T0' : decide (i < N5) = true := decide_eq_true hlt
      obtain ⟨i', hi'⟩ : ∃ z, z = i + 1 := ⟨_, rfl⟩
      have x0 : IntKind.i64.wrap ((i : Int) + 1) = (i' : Int) := by have := HP30.out; have := HL.out; rw [IntKind.wrap_i64]; omega
      have HMS : Hid (N5 - (RowKit.intOf (Value.int .i64 (i' : Int))).toNat < N5 - (RowKit.intOf (Value.int .i64 (i : Int))).toNat) := by show _ < _; simp [RowKit.intOf]; omega
      have HI' : Hid (i' ≤ N5) := by show i' ≤ N5; omega
      have kk0 : (0 : Int) ≤ (i : Int) := by omega
      have kk1 : (i : Int) < (N5 : Int) := by omega
      have HWr : Hid (Below w.heap.size w wr) := below_step H5.out HQ.out
      have HBr := Lib.hid (HB5.out.call HQ.out)
      obtain ⟨d0, d1⟩ := blk2 HBr.out
      obtain ⟨b5, o5, rfl, hb5, cS⟩ := (HSa5.out.below (Nat.le_refl _) HQ.out).at hlt
      obtain ⟨j, hj⟩ : ∃ j, j = i / 2 := ⟨_, rfl⟩
      have q1 : (i : Int).tdiv 2 = (j : Int) := by rw [Int.tdiv_eq_ediv_of_nonneg (by omega)]; omega
      have q2 : (i : Int) / 2 = (j : Int) := by omega
      have q3 : i / 2 = j := hj.symm
      have q4 : IntKind.i64.wrap (j : Int) = (j : Int) := by have := HP30.out; have := HL.out; rw [IntKind.wrap_i64]; omega
      have j0 : (0 : Int) ≤ (j : Int) := by omega
      have hjp : j < p := by have := HL.out; omega
      have j1 : (j : Int) < (p : Int) := by omega
      have j2 : j < p := hjp
      obtain ⟨bS, oS, rfl, hbS, cN⟩ := (HN.out.below (Nat.le_refl _) HWr.out).at hjp
      obtain ⟨hx, hx2, hx3⟩ := ndI_at (HF.out j hjp)
      by_cases hpar : i % 2 = 0
      · have hi2 : i = 2 * j := by omega
        have m1 : (i : Int).tmod 2 = 0 := by rw [Int.tmod_eq_emod_of_nonneg (by omega)]; omega
        have m2 : (i : Int) % 2 = 0 := by omega
        obtain ⟨x, hxd⟩ : ∃ z, z = ndI D n N j := ⟨_, rfl⟩
        have cL : wr.cell? ⟨b5, o5 + i, none⟩ = some (.string (nlin D Lo Hi x)) := by rw [cS, hi2, sall_even hjp, hxd]
        rw [← hxd] at hx hx2 hx3
        have hnd := (HGX.out.1.2.2.1 x hx).1
        obtain ⟨a1, a2, a3, ⟨a4, a5⟩, a6⟩ := hnd
        have k4' : x < q := by have := HPQ.out.2; omega
        have hsp := HGX.out.2 x k4'
        unfold lvP at a4 a5
        unfold spP at hsp
        have hsz := HDN.out x hx
        have hns := name_nosp a1
        have hn1 : 1 ≤ (D.Nm x).size := by
          have := a1
          unfold nameB at this
          simp only [Bool.and_eq_true, decide_eq_true_eq] at this
          exact this.1.1.1
        have lz := nlin_size D Lo Hi x hsz (by omega) (by omega) (by omega) (by omega)
        obtain ⟨bR, hcut⟩ := tcutL (D.Nm x) (nlin D Lo Hi x) _ (nlin_toList D Lo Hi x) hns (by omega)
        have SC := Lib.hid hcut
        have SRD := Lib.hid fun w hE => treadL D Lo Hi x ⟨hn1, hsz⟩ (by omega) (by omega) (by omega) (by omega) w hE
        have SSF := Lib.hid fun w => tsufTo (nlab D Lo x) _ (nlab_to D Lo x) (nlab_size D Lo x hsz (by omega) (by omega) (by omega)) w
        rw [← hx3] at cN hx2
        have SFn := Lib.hid fun w hD => SFN.out (D.Nm x) w hD
        have SFl := Lib.hid fun w hK => SFL.out (D.Nm x) w hK
        rw [hx2] at SFn
        obtain ⟨bv, ov, rfl, hbv, cl0, cl1⟩ := HV.out.at k4'
        have HVB : Hid (∀ W, Below w.heap.size w W → W.cell? ⟨bv, ov + x * 2 + 1, none⟩ = some (.int .i64 (Hi x))) := fun W hW => (hW.cell (p := ⟨bv, ov + x * 2 + 1, none⟩) hbv).trans cl1
        have k2 : (0 : Int) ≤ (x : Int) := by omega
        have k4 : (x : Int) < (q : Int) := by omega
        generalize fnd K.Nm m (D.Nm x) = fl at SFl
        clear hlt hi' hj hjp hpar hi2 hxd hx hx2 hx3 a1 a2 a3 a4 a5 a6 hsp hsz hns hn1 lz hcut hbv cl0 cl1 cS hb5 hbS
        generalize nlin D Lo Hi x = line at cL SC SRD
        generalize nlab D Lo x = lab at SRD SSF
        generalize D.Nm x = nm at SC SFn SFl cN
        go_upto_region 16 with (first
          | (go_at_call 14
             with_reducible refine (SC.out _).mono ?_
             rintro e w8 ⟨rfl, hb8⟩
             have HQ8 := Lib.hid (below_step HQ.out hb8)
             have HW8 := Lib.hid (below_step HWr.out hb8)
             have cN8 := (hb8.cell (p := ⟨bS, oS + j, none⟩) (World.block_lt_of_cell? wr _ cN)).trans cN
             obtain ⟨d0, d1⟩ := blk2 (HBr.out.call hb8)
             have HB8 := Lib.hid (HBr.out.call hb8)
             clear hb8)
          | (go_at_call 15
             with_reducible refine (SFl.out _ ?_).mono ?_
             focus (exact HK.out.below (Nat.le_refl _) HW8.out)
             rintro e w9 ⟨rfl, hb9⟩
             have HQ9 := Lib.hid (below_step HQ8.out hb9)
             have HW9 := Lib.hid (below_step HW8.out hb9)
             have HB9 := Lib.hid (HB8.out.call hb9)
             clear hb9))
        go_quiet (fail)
        have HQ9b : Hid (Below w5.heap.size w5 (w9.drewN nq)) := below_drewN HQ9.out _
        have HW9b : Hid (Below w.heap.size w (w9.drewN nq)) := below_drewN HW9.out _
        have HB9b : Hid (Blk (w9.drewN nq) w.heap.size 25 #[.slice NA n nc, .slice LA m lc]) := HB9.out
        clear HQ9 HW9 HB9 HQ8 HW8 HB8 cN8 d0 d1
        generalize w9.drewN nq = w9b at HQ9b HW9b HB9b ⊢
        go_wp2_with (first
          | (go_at_call 16
             with_reducible refine (SRD.out _ ?_).mono ?_
             focus (exact HE.out.below HW9b.out)
             rintro e w10 ⟨rfl, hb10⟩
             have HQ10 := Lib.hid (below_step HQ9b.out hb10)
             have HW10 := Lib.hid (below_step HW9b.out hb10)
             have HB10 := Lib.hid (HB9b.out.call hb10)
             obtain ⟨d0, d1⟩ := blk2 HB10.out
             clear hb10)
          | (go_at_call 17
             with_reducible refine (SSF.out _).mono ?_
             rintro e wz ⟨rfl, rfl⟩)
          | (go_at_call 18
             with_reducible refine (SFn.out _ ?_).mono ?_
             focus (exact HD.out.below (Nat.le_refl _) HW10.out)
             rintro e w11 ⟨rfl, hb11⟩
             have HQ11 := Lib.hid (below_step HQ10.out hb11)
             have cv := HVB.out _ (below_step HW10.out hb11)
             clear hb11))
        go_roundw
        case rel => exact ⟨i', HI', rfl, HQ11⟩
        case measure => exact HMS.out
      · have hi2 : i = 2 * j + 1 := by omega
        have hj1 : j + 1 < p := by have := HL.out; omega
        have m1 : (i : Int).tmod 2 = 1 := by rw [Int.tmod_eq_emod_of_nonneg (by omega)]; omega
        have m2 : (i : Int) % 2 = 1 := by omega
        obtain ⟨l, hl⟩ : ∃ z, z = lkI K m N j := ⟨_, rfl⟩
        have cL : wr.cell? ⟨b5, o5 + i, none⟩ = some (.string (klin K C c l)) := by rw [cS, hi2, sall_odd hj1, hl]
        obtain ⟨u1, u2, u3, u4⟩ := lkI_at (HBT.out j hj1)
        rw [← hl] at u1 u3 u4
        have hlk := HGX.out.1.2.2.2 l u1
        have hns := name_nosp hlk.1.1
        have hff := hlk.2.1
        obtain ⟨rr, hrr⟩ := klin_toList K C c l
        have hsz := HKN.out l u1
        obtain ⟨bR, hcut⟩ := tcutL (K.Nm l) (klin K C c l) rr hrr hns (by omega)
        have SC := Lib.hid hcut
        have SFl := Lib.hid fun w hK => SFL.out (K.Nm l) w hK
        rw [hff] at SFl
        obtain ⟨jn1, hjn1⟩ : ∃ z, z = j + 1 := ⟨_, rfl⟩
        have y0 : IntKind.i64.wrap ((j : Int) + 1) = (jn1 : Int) := by have := HP30.out; rw [IntKind.wrap_i64]; omega
        have y1 : (0 : Int) ≤ (jn1 : Int) := by omega
        have y2 : (jn1 : Int) < (p : Int) := by omega
        have y3 : jn1 < p := by omega
        obtain ⟨bS', oS', e2, _, cM⟩ := (HN.out.below (Nat.le_refl _) HWr.out).at hj1
        cases e2
        rw [← hjn1] at cM u4
        obtain ⟨bk, ok, rfl, hbk, hC, _⟩ := HK.out.at u1
        have c1 := hC 1 _ rfl
        have c2 := hC 2 _ rfl
        rw [u3] at c1
        rw [u4] at c2
        have HCK : Hid (∀ W, Below w.heap.size w W → W.cell? ⟨bk, ok + l * 11 + 1, none⟩ = some (.string (N j)) ∧ W.cell? ⟨bk, ok + l * 11 + 2, none⟩ = some (.string (N jn1))) := fun W hW => ⟨(hW.cell (p := ⟨bk, ok + l * 11 + 1, none⟩) hbk).trans c1, (hW.cell (p := ⟨bk, ok + l * 11 + 2, none⟩) hbk).trans c2⟩
        have k2 : (0 : Int) ≤ (l : Int) := by omega
        have k3 : (l : Int) < (m : Int) := by omega
        have k3' : l < m := u1
        have k5 : decide ((l : Int) < 0) = false := decide_eq_false (by omega)
        clear hlt hi' hj hjp hpar hi2 hl u1 u2 u3 u4 hlk hns hff hrr hsz hcut hjn1 hbk hC c1 c2 cS hb5 hj1 hx hx2 hx3
        generalize klin K C c l = line at cL SC
        generalize K.Nm l = nm at SC SFl
        go_upto_region 16 with (first
          | (go_at_call 14
             with_reducible refine (SC.out _).mono ?_
             rintro e w8 ⟨rfl, hb8⟩
             have HQ8 := Lib.hid (below_step HQ.out hb8)
             have HW8 := Lib.hid (below_step HWr.out hb8)
             obtain ⟨d0, d1⟩ := blk2 (HBr.out.call hb8)
             have HB8 := Lib.hid (HBr.out.call hb8)
             have HNS : Hid (∀ W, Below w8.heap.size w8 W → W.cell? ⟨bS, oS + j, none⟩ = some (.string (N j)) ∧ W.cell? ⟨bS, oS + jn1, none⟩ = some (.string (N jn1))) := fun W hW => ⟨((hb8.trans (hW.mono hb8.size)).cell (p := ⟨bS, oS + j, none⟩) hbS).trans cN, ((hb8.trans (hW.mono hb8.size)).cell (p := ⟨bS, oS + jn1, none⟩) hbS).trans cM⟩
             clear hb8)
          | (go_at_call 15
             with_reducible refine (SFl.out _ ?_).mono ?_
             focus (exact HK.out.below (Nat.le_refl _) HW8.out)
             rintro e w9 ⟨rfl, hb9⟩
             have HQ9 := Lib.hid (below_step HQ8.out hb9)
             obtain ⟨n0, n1⟩ := HNS.out _ hb9
             obtain ⟨l0, l1⟩ := HCK.out _ (below_step HW8.out hb9)
             obtain ⟨d0, d1⟩ := blk2 (HB8.out.call hb9)
             clear hb9))
        go_quiet (fail)
        have HQ9b : Hid (Below w5.heap.size w5 (w9.drewN nq)) := below_drewN HQ9.out _
        clear HQ9 n0 n1 l0 l1 d0 d1
        generalize w9.drewN nq = w9b at HQ9b ⊢
        go_wp2_with fail
        go_roundw
        case rel => exact ⟨i', HI', rfl, HQ9b⟩
        case measure => exact HMS.out
    · have T0 : decide ((i : Int) < (N5 : Int)) = false := by simp <;> omega
      have T0' : decide (i < N5) = false := decide_eq_false hlt
      clear hlt
      have HW6 := Lib.hid (below_step H5.out HQ.out)
      have HB6 := Lib.hid (HB5.out.call HQ.out)
      clear HQ HGX HF HBT HPQ HL
      generalize wr = w6 at HW6 HB6 ⊢
      clear HSa5 HB5 HE HC SFL SFN HDN HKN H5
      obtain ⟨d0, d1⟩ := blk2 HB6.out
      go_upto_region 26 with (first
        | (go_at_call 10
           with_reducible refine (S6.out _ ?_ ?_ ?_ ?_).mono ?_
           focus (exact HD.out.below (Nat.le_refl _) HW6.out)
           focus (exact HK.out.below (Nat.le_refl _) HW6.out)
           focus (exact HN.out.below (Nat.le_refl _) HW6.out)
           focus (exact HV.out.below (Nat.le_refl _) HW6.out)
           rintro e w7 ⟨R7, er7, A7, N7, c7, hr7, rfl, hN7, hc7, hs7, hb7⟩
           have H7 := Lib.hid (below_step HW6.out hb7)
           have HB7 := Lib.hid (HB6.out.call hb7)
           obtain ⟨d0, d1⟩ := blk2 HB7.out
           have HN7 := Lib.hid hN7
           have HR7 := Lib.hid hr7
           have HSb7 := Lib.hid hs7
           clear hr7 hN7 hs7
           clear hb7))
      clear d0 d1 S6 HB6 HW6 HB7
      by_cases g7 : er7 = 0
      case neg =>
        have t7 : (er7 == 0) = false := by simpa using g7
        have t7n : (er7 != 0) = true := by simpa using g7
        have hN0 : N7 = 0 := by
          rw [HN7.out]
          rcases HR7.out with _ | _ | _ | _
          · rfl
          · rfl
          · rfl
          · exact absurd rfl g7
        clear g7
        subst hN0
        go_wp2_with fail
        go_ret
        exact ⟨rfl, H7.out⟩
      have t7 : (er7 == 0) = true := by simpa using g7
      have t7n : (er7 != 0) = false := by simpa using g7
      have hS : vlP D n K m q Lo Hi ∧ crsE D n K m N p q = 0 ∧ (1 ≤ wd ∧ wd ≤ 200 ∧ 2 ≤ hh ∧ hh ≤ 100) ∧ R7 = prows D n N p Hi wd.toNat hh hh.toNat := by
        rcases HR7.out with h | ⟨_, h⟩ | _ | ⟨a, b, d⟩
        · exact absurd g7 (by decide)
        · exact absurd g7 h
        · exact absurd g7 (by decide)
        · exact ⟨a, b, d, rfl⟩
      obtain ⟨v1, v2, v3, rfl⟩ := hS
      obtain ⟨WD, rfl⟩ : ∃ z : Nat, wd = (z : Int) := ⟨wd.toNat, by omega⟩
      obtain ⟨H, rfl⟩ : ∃ z : Nat, hh = (z : Int) := ⟨hh.toNat, by omega⟩
      simp only [Int.toNat_natCast] at HR7 HN7 HSb7
      obtain ⟨z1, z2, z3, z4, z5⟩ := crsE_zero v2
      have HRG : Hid (1 ≤ WD ∧ WD ≤ 200 ∧ 2 ≤ H ∧ H ≤ 100) := by show _ ∧ _; omega
      obtain rfl : N7 = H := by rw [HN7.out, prows_len]
      have HGB : Hid (∀ i, i < p → D.Iv (ndI D n N i) ≤ D.Gd (ndI D n N i)) := fun i hi => by
        obtain ⟨_, _, _, ⟨a1, a2⟩, a3⟩ := (v1.1.2.2.1 _ (ndI_at (z4 i hi)).1).1
        rcases a3 with ⟨_, a3, _⟩ | ⟨_, a3, _⟩ <;> omega
      have HP1 : Hid (1 ≤ p) := z2
      have cB : ∃ b7 o7, A7 = some ⟨b7, o7, none⟩ ∧ b7 < w7.heap.size ∧ ∀ k, k < N7 → w7.cell? ⟨b7, o7 + k, none⟩ = some (.string (prow D n N p Hi WD (N7 : Int) (k : Int) WD)) := by
        obtain ⟨b7, o7, e7, hb7, _⟩ := HSb7.out.at (by omega : 0 < N7)
        refine ⟨b7, o7, e7, hb7, fun k hk => ?_⟩
        obtain ⟨b7', o7', e7', _, c7'⟩ := HSb7.out.at hk
        rw [e7] at e7'
        cases e7'
        rw [c7']
        unfold prows
        simp [hk]
      obtain ⟨b7, o7, rfl, hb7, hc7⟩ := cB
      have HCB : Hid (∀ W, Below w7.heap.size w7 W → ∀ k, k < N7 → W.cell? ⟨b7, o7 + k, none⟩ = some (.string (prow D n N p Hi WD (N7 : Int) (k : Int) WD))) := fun W hW k hk => (hW.cell (p := ⟨b7, o7 + k, none⟩) hb7).trans (hc7 k hk)
      clear g7 v1 v2 v3 z1 z2 z3 z4 z5 HR7 HN7 HSb7 hb7 hc7
      go_wp2_with fail
      clear t7 t7n
      go_loopw [191] (fun u wr => ∃ i : Nat, Hid (i ≤ WD) ∧ u = .int .i64 i ∧ Hid (Below w7.heap.size w7 wr)) (fun u _ => WD - (RowKit.intOf u).toNat)
      case atStart => exact ⟨0, Nat.zero_le _, rfl, Below.refl _ _⟩
      case round =>
        obtain ⟨i, Hi0, rfl, HQ⟩ := hrel
        by_cases hlt : i < WD
        · have T0 : decide ((i : Int) < (WD : Int)) = true := by simp <;> omega
          have T0' : decide (i < WD) = true := decide_eq_true hlt
          obtain ⟨i', hi'⟩ : ∃ z, z = i + 1 := ⟨_, rfl⟩
          have x0 : IntKind.i64.wrap ((i : Int) + 1) = (i' : Int) := by have := HRG.out; rw [IntKind.wrap_i64]; omega
          have HMS : Hid (WD - (RowKit.intOf (Value.int .i64 (i' : Int))).toNat < WD - (RowKit.intOf (Value.int .i64 (i : Int))).toNat) := by show _ < _; simp [RowKit.intOf]; omega
          have HI' : Hid (i' ≤ WD) := by show i' ≤ WD; omega
          have HLI := Lib.hid hlt
          have hid : i * p / WD < p := Nat.div_lt_of_lt_mul (Nat.mul_lt_mul_of_pos_right hlt HP1.out)
          have hgi := HGB.out _ hid
          obtain ⟨y, hy⟩ : ∃ z, z = ndI D n N (i * p / WD) := ⟨_, rfl⟩
          rw [← hy] at hgi
          have HH1 : Hid ((1 : Int) ≤ (N7 : Int)) := by show (1 : Int) ≤ _; have := HRG.out; omega
          obtain ⟨ri, hri⟩ : ∃ z : Nat, (z : Int) = rowZ (pTop D n N p) (pBot D n N p) (N7 : Int) (D.Iv y) := ⟨(rowZ (pTop D n N p) (pBot D n N p) (N7 : Int) (D.Iv y)).toNat, Int.toNat_of_nonneg (rowZ_bd HH1.out).1⟩
          obtain ⟨rg, hrg⟩ : ∃ z : Nat, (z : Int) = rowZ (pTop D n N p) (pBot D n N p) (N7 : Int) (D.Gd y) := ⟨(rowZ (pTop D n N p) (pBot D n N p) (N7 : Int) (D.Gd y)).toNat, Int.toNat_of_nonneg (rowZ_bd HH1.out).1⟩
          have hri2 := (rowZ_bd (top := pTop D n N p) (bot := pBot D n N p) (h := (N7 : Int)) (z := D.Iv y) HH1.out).2
          have hgr := rowZ_anti (top := pTop D n N p) (bot := pBot D n N p) (h := (N7 : Int)) HH1.out hgi
          have HRR : Hid (ri < N7 ∧ rg ≤ ri) := by show _ ∧ _; omega
          have HCH : Hid (∀ k : Nat, (k = ri → pch D n N p Hi WD (N7 : Int) (k : Int) i = 95) ∧ (k ≠ ri → k = rg → pch D n N p Hi WD (N7 : Int) (k : Int) i = 61) ∧ (k ≠ ri → k ≠ rg → pch D n N p Hi WD (N7 : Int) (k : Int) i = 126 ∨ pch D n N p Hi WD (N7 : Int) (k : Int) i = 32)) := fun k => by
            unfold pch chr
            rw [← hy, ← hri, ← hrg]
            refine ⟨fun e => if_pos (by omega), fun e1 e2 => ?_, fun e1 e2 => ?_⟩
            · rw [if_neg (by omega), if_pos (by omega)]
            · rw [if_neg (by omega), if_neg (by omega)]
              split
              · exact .inl rfl
              · exact .inr rfl
          clear hlt hi' hid hgi hy hri hrg hri2 hgr
          have e0 : (-1 : Int) = gnd ri rg 0 := by unfold gnd; rw [if_neg (by omega)]
          have e1 : (-1 : Int) = inv ri 0 := by unfold inv; rw [if_neg (by omega)]
          go_wp2_with fail
          go_loopw [26, 27, 196] (fun u v z wr => ∃ k : Nat, Hid (k ≤ N7) ∧ u = .int .i64 (gnd ri rg k) ∧ v = .int .i64 (inv ri k) ∧ z = .int .i64 k ∧ Hid (Below w7.heap.size w7 wr)) (fun _ _ z _ => N7 - (RowKit.intOf z).toNat)
          case atStart => exact ⟨0, Nat.zero_le _, by rw [e0], by rw [e1], rfl, HQ⟩
          case round =>
            clear e0 e1 HQ
            obtain ⟨k, Hk, rfl, rfl, rfl, HQ⟩ := hrel
            by_cases hlt : k < N7
            · have T1 : decide ((k : Int) < (N7 : Int)) = true := by simp <;> omega
              have T1' : decide (k < N7) = true := decide_eq_true hlt
              obtain ⟨k', hk'⟩ : ∃ z, z = k + 1 := ⟨_, rfl⟩
              have y0 : IntKind.i64.wrap ((k : Int) + 1) = (k' : Int) := by have := HRG.out; rw [IntKind.wrap_i64]; omega
              have HM9 : Hid (N7 - (RowKit.intOf (Value.int .i64 (k' : Int))).toNat < N7 - (RowKit.intOf (Value.int .i64 (k : Int))).toNat) := by show _ < _; simp [RowKit.intOf]; omega
              have HI9 : Hid (k' ≤ N7) := by show k' ≤ N7; omega
              have b0 : (0 : Int) ≤ (k : Int) := by omega
              have b1 : (k : Int) < (N7 : Int) := by omega
              have b2 : k < N7 := hlt
              have cS := HCB.out wr HQ.out k hlt
              have hps := prow_size D n N p Hi WD (N7 : Int) (k : Int) WD
              have hps2 : ((prow D n N p Hi WD (N7 : Int) (k : Int) WD).size : Int) = (WD : Int) := by rw [hps]
              have hidx : ∀ W, (Instr.index 9 (.string (prow D n N p Hi WD (N7 : Int) (k : Int) WD)) (.int .i64 (i : Int))).run Tryz.prog W = .ok (.int .u8 ((pch D n N p Hi WD (N7 : Int) (k : Int) i).toNat : Int)) W := fun W => by
                rw [run_index_string W 9 _ .i64 (i : Int) Tryz.underlying9]
                have hli := HLI.out
                rw [dif_pos ⟨by omega, by omega⟩]
                have : (prow D n N p Hi WD (N7 : Int) (k : Int) WD)[(i : Int).toNat]'(by omega) = pch D n N p Hi WD (N7 : Int) (k : Int) i := by
                  show ((List.range WD).map (pch D n N p Hi WD (N7 : Int) (k : Int))).toArray[(i : Int).toNat]'(by simpa using hli) = _
                  simp
                rw [this]
              obtain ⟨p1, p2, p3⟩ := HCH.out k
              generalize prow D n N p Hi WD (N7 : Int) (k : Int) WD = s0 at cS hps hps2 hidx
              generalize pch D n N p Hi WD (N7 : Int) (k : Int) i = ch at hidx p1 p2 p3
              clear hps
              by_cases e1 : k = ri
              · have hc := p1 e1
                subst hc
                have E1 : Hid (gnd ri rg k' = gnd ri rg k) := by
                  show _ = _
                  rw [hk']
                  have := HRR.out
                  by_cases g : rg = ri
                  · exact gnd_same (.inr g)
                  · exact gnd_same (.inl (by omega))
                have E2 : Hid (inv ri k' = (k : Int)) := by
                  show _ = _
                  rw [hk']
                  exact inv_new e1
                clear hlt hk' e1 p1 p2 p3
                go_wp2_with fail
                go_roundw
                case rel => exact ⟨k', HI9, by rw [E1.out], by rw [E2.out], rfl, HQ⟩
                case measure => exact HM9.out
              · by_cases e2 : k = rg
                · have hc := p2 e1 e2
                  subst hc
                  have E1 : Hid (gnd ri rg k' = (k : Int)) := by
                    show _ = _
                    rw [hk']
                    exact gnd_new e2 e1
                  have E2 : Hid (inv ri k' = inv ri k) := by
                    show _ = _
                    rw [hk']
                    exact inv_same e1
                  clear hlt hk' e1 e2 p1 p2 p3
                  go_wp2_with fail
                  go_roundw
                  case rel => exact ⟨k', HI9, by rw [E1.out], by rw [E2.out], rfl, HQ⟩
                  case measure => exact HM9.out
                · have E1 : Hid (gnd ri rg k' = gnd ri rg k) := by
                    show _ = _
                    rw [hk']
                    exact gnd_same (.inl e2)
                  have E2 : Hid (inv ri k' = inv ri k) := by
                    show _ = _
                    rw [hk']
                    exact inv_same e1
                  rcases p3 e1 e2 with hc | hc
                  · subst hc
                    clear hlt hk' e1 e2 p1 p2 p3
                    go_wp2_with fail
                    go_roundw
                    case rel => exact ⟨k', HI9, by rw [E1.out], by rw [E2.out], rfl, HQ⟩
                    case measure => exact HM9.out
                  · subst hc
                    clear hlt hk' e1 e2 p1 p2 p3
                    go_wp2_with fail
                    go_roundw
                    case rel => exact ⟨k', HI9, by rw [E1.out], by rw [E2.out], rfl, HQ⟩
                    case measure => exact HM9.out
            · have T1 : decide ((k : Int) < (N7 : Int)) = false := by simp <;> omega
              have T1' : decide (k < N7) = false := decide_eq_false hlt
              obtain rfl : N7 = k := by have := Hk.out; omega
              have E2 : inv ri N7 = (ri : Int) := by unfold inv; rw [if_pos HRR.out.1]
              obtain ⟨g, hg⟩ : ∃ z, z = gnd ri rg N7 := ⟨_, rfl⟩
              have hgl : g ≤ (ri : Int) := by
                have := HRR.out
                rw [hg]
                unfold gnd
                by_cases e : rg < N7 ∧ rg ≠ ri
                · rw [if_pos e]; omega
                · rw [if_neg e]; omega
              rw [E2, ← hg]
              have z0 : decide ((ri : Int) < 0) = false := decide_eq_false (by omega)
              have z1 : decide ((ri : Int) < g) = false := decide_eq_false (by omega)
              clear hlt hg hgl E2
              go_wp2_with fail
              go_roundw
              case rel => exact ⟨i', HI', rfl, HQ⟩
              case measure => exact HMS.out
        · have T0 : decide ((i : Int) < (WD : Int)) = false := by simp <;> omega
          have T0' : decide (i < WD) = false := decide_eq_false hlt
          clear hlt
          go_wp2_with fail
          go_ret
          exact ⟨rfl, below_step H7.out HQ.out⟩
end Go.Proofs.YtdgfljkhnifemaaGreatDoor

/- Merged texts of these proofs: OpRe,LRe. -/
import Derived.Test.YtchakniaoeodmaaGreatDoorMgMs
import Derived.Test.YtchakniaoeodmaaGreatDoorRows
import Derived.Test.YtchakniaoeodmaaGreatDoorStay
import Derived.Test.YtchakniaoeodmaaGreatDoorMgQ
import Derived.LaidMore
import Derived.Lay
import Derived.Stop.Joined
import Derived.Stop.LaidErr
import Derived.Lib.LaidTab
import Derived.Test.YtchakniaoeodmaaGreatDoorMgAw
import Derived.Test.YtchakniaoeodmaaGreatDoorMgAll
import Derived.Test.YtchakniaoeodmaaGreatDoorMgS
namespace Go.Proofs.YtchakniaoeodmaaGreatDoor.scenarioReachesRow
open Go.Proofs.YtchakniaoeodmaaGreatDoor Go.RowKit Go.WideShapes Go.ChangeShapes Go.ChangeAt Go.Deep Go.Joins
set_option linter.unusedVariables false
set_option linter.unusedSimpArgs false

/-- A start that meets the condition. -/
theorem door_met (os : Os) (args : Array Value) : laidMetH Tryz.prog Rows.scenarioReachesRow.laid ((World.laidAll Tryz.prog os Rows.scenarioReachesRow.laid).forCall (fun _ _ => 0) ⟨#[], args, []⟩).memory := by
  rw [MakeChecks.laidMetH_plain _ _ _ (by kernel_rfl)]
  exact laidMet_laidAll _ (by kernel_rfl) (by kernel_rfl)
end Go.Proofs.YtchakniaoeodmaaGreatDoor.scenarioReachesRow

namespace Go.Proofs.YtchakniaoeodmaaGreatDoor
open Go.RowKit
set_option linter.unusedVariables false
set_option linter.unusedSimpArgs false

set_option maxRecDepth 100000 in
set_option maxHeartbeats 32000000 in
theorem l_reaches (NA LA NB LB : Option Addr) (n nc0 m lc0 n' nc1 m' lc1 : Nat) (D D' : Nds) (K K' : Lks) (w : World) (hD : NdIn w NA n D) (hK : LkIn w LA m K) (hD' : NdIn w NB n' D') (hK' : LkIn w LB m' K') :
    Calls Tryz.prog 5 #[.agg #[.slice NA n nc0, .slice LA m lc0], .agg #[.slice NB n' nc1, .slice LB m' lc1]] w fun e w' => e = .returned (.bool true) ∧ Below w.heap.size w w' := by
  have hal : Below w.heap.size w ((w.alloc (Obj.cells #[.slice NA n nc0, .slice LA m lc0] 52)).alloc (Obj.cells #[.slice NB n' nc1, .slice LB m' lc1] 52)) := ((Below.refl _ w).alloc (Nat.le_refl _) _).alloc (by simp) _
  have HB := Lib.hid hal
  have HNX : Hid (Blk ((w.alloc (Obj.cells #[.slice NA n nc0, .slice LA m lc0] 52)).alloc (Obj.cells #[.slice NB n' nc1, .slice LB m' lc1] 52)) w.heap.size 52 #[.slice NA n nc0, .slice LA m lc0]) := (Blk.new _ _ _).alloc _
  have Eb : Hid (Blk ((w.alloc (Obj.cells #[.slice NA n nc0, .slice LA m lc0] 52)).alloc (Obj.cells #[.slice NB n' nc1, .slice LB m' lc1] 52)) (w.heap.size + 1) 52 #[.slice NB n' nc1, .slice LB m' lc1]) := by have h := Blk.new (w.alloc (Obj.cells #[.slice NA n nc0, .slice LA m lc0] 52)) 52 #[.slice NB n' nc1, .slice LB m' lc1]; rw [zB0] at h; exact h
  have En := Lib.hid (And.intro (zA9 hD' hal) (zA8 hK' hal))
  have HD := Lib.hid hD
  have HK := Lib.hid hK
  have HD2 := Lib.hid hD'
  have HK2 := Lib.hid hK'
  have SH : Hid (∀ w', Below w.heap.size w w' → Calls Tryz.prog 24 #[.agg #[.slice NA n nc0, .slice LA m lc0]] w' fun e w'' => e = .returned (.bool (boolOf (hvyP D n K m))) ∧ Below w'.heap.size w' w'') := fun w' hb => sc_heavy NA LA n nc0 m lc0 D K w' (zA9 HD.out hb) (zA8 HK.out hb)
  have SH2 : Hid (∀ w', Below w.heap.size w w' → Calls Tryz.prog 24 #[.agg #[.slice NB n' nc1, .slice LB m' lc1]] w' fun e w'' => e = .returned (.bool (boolOf (hvyP D' n' K' m'))) ∧ Below w'.heap.size w' w'') := fun w' hb => sc_heavy NB LB n' nc1 m' lc1 D' K' w' (zA9 HD2.out hb) (zA8 HK2.out hb)
  clear hD hK hD' hK' hal
  go_enter Tryz.func5, Tryz.ntmps5
  go_upto_region 1 with fail
  generalize (w.alloc (Obj.cells #[.slice NA n nc0, .slice LA m lc0] 52)).alloc (Obj.cells #[.slice NB n' nc1, .slice LB m' lc1] 52) = w2 at HB HNX En Eb ⊢
  obtain ⟨d0, d1⟩ := blk2 HNX.out
  obtain ⟨e0_, e1_⟩ := blk2 Eb.out
  by_cases hh : hvyP D n K m
  · rw [zA2 hh] at SH
    clear hh
    go_wp2_with (first
    | (go_at_call 10
       with_reducible refine (zP8 _).mono ?_
       rintro e w4 ⟨rfl, hb4⟩
       have HNX := Lib.hid (HNX.out.call hb4)
       have HB := Lib.hid (zA0 HB.out hb4)
       have En := Lib.hid (And.intro (En.out.1.below (Nat.le_refl _) hb4) (En.out.2.below (Nat.le_refl _) hb4))
       have Eb := Lib.hid (Eb.out.call hb4)
       clear d0 d1 e0_ e1_
       obtain ⟨d0, d1⟩ := blk2 HNX.out
       obtain ⟨e0_, e1_⟩ := blk2 Eb.out
       clear hb4)
    | (go_at_call 24
       with_reducible refine (SH.out _ HB.out).mono ?_
       rintro e w4 ⟨rfl, hb4⟩
       have HNX := Lib.hid (HNX.out.call hb4)
       have HB := Lib.hid (zA0 HB.out hb4)
       have En := Lib.hid (And.intro (En.out.1.below (Nat.le_refl _) hb4) (En.out.2.below (Nat.le_refl _) hb4))
       have Eb := Lib.hid (Eb.out.call hb4)
       clear d0 d1 e0_ e1_
       obtain ⟨d0, d1⟩ := blk2 HNX.out
       obtain ⟨e0_, e1_⟩ := blk2 Eb.out
       clear hb4))
    go_ret
    exact ⟨rfl, HB.out⟩
  rw [zA1 hh] at SH
  by_cases hh2 : hvyP D' n' K' m'
  · rw [zA2 hh2] at SH2
    clear hh hh2
    go_wp2_with (first
    | (go_at_call 10
       with_reducible refine (zP8 _).mono ?_
       rintro e w4 ⟨rfl, hb4⟩
       have HNX := Lib.hid (HNX.out.call hb4)
       have HB := Lib.hid (zA0 HB.out hb4)
       have En := Lib.hid (And.intro (En.out.1.below (Nat.le_refl _) hb4) (En.out.2.below (Nat.le_refl _) hb4))
       have Eb := Lib.hid (Eb.out.call hb4)
       clear d0 d1 e0_ e1_
       obtain ⟨d0, d1⟩ := blk2 HNX.out
       obtain ⟨e0_, e1_⟩ := blk2 Eb.out
       clear hb4)
    | (go_at_call 24
       with_reducible refine (SH.out _ HB.out).mono ?_
       rintro e w4 ⟨rfl, hb4⟩
       have HNX := Lib.hid (HNX.out.call hb4)
       have HB := Lib.hid (zA0 HB.out hb4)
       have En := Lib.hid (And.intro (En.out.1.below (Nat.le_refl _) hb4) (En.out.2.below (Nat.le_refl _) hb4))
       have Eb := Lib.hid (Eb.out.call hb4)
       clear d0 d1 e0_ e1_
       obtain ⟨d0, d1⟩ := blk2 HNX.out
       obtain ⟨e0_, e1_⟩ := blk2 Eb.out
       clear hb4)
    | (go_at_call 24
       with_reducible refine (SH2.out _ HB.out).mono ?_
       rintro e w4 ⟨rfl, hb4⟩
       have HNX := Lib.hid (HNX.out.call hb4)
       have HB := Lib.hid (zA0 HB.out hb4)
       have En := Lib.hid (And.intro (En.out.1.below (Nat.le_refl _) hb4) (En.out.2.below (Nat.le_refl _) hb4))
       have Eb := Lib.hid (Eb.out.call hb4)
       clear d0 d1 e0_ e1_
       obtain ⟨d0, d1⟩ := blk2 HNX.out
       obtain ⟨e0_, e1_⟩ := blk2 Eb.out
       clear hb4))
    go_ret
    exact ⟨rfl, HB.out⟩
  rw [zA1 hh2] at SH2
  have hzz := hvy_zz hh
  have hzz2 := hvy_zz hh2
  have SV : Hid (∀ w', Below w.heap.size w w' → Calls Tryz.prog 28 #[.agg #[.slice NA n nc0, .slice LA m lc0]] w' fun e w'' => e = .returned (.bool (boolOf (netP D n K m))) ∧ Below w'.heap.size w' w'') := fun w' hb => zD6 NA LA n nc0 m lc0 D K hzz.sz w' (zA9 HD.out hb) (zA8 HK.out hb)
  have SV2 : Hid (∀ w', Below w.heap.size w w' → Calls Tryz.prog 28 #[.agg #[.slice NB n' nc1, .slice LB m' lc1]] w' fun e w'' => e = .returned (.bool (boolOf (netP D' n' K' m'))) ∧ Below w'.heap.size w' w'') := fun w' hb => zD6 NB LB n' nc1 m' lc1 D' K' hzz2.sz w' (zA9 HD2.out hb) (zA8 HK2.out hb)
  by_cases hp : netP D n K m
  case neg =>
    rw [zA1 hp] at SV
    clear hh hh2 hp hzz hzz2
    go_wp2_with (first
    | (go_at_call 10
       with_reducible refine (zP8 _).mono ?_
       rintro e w4 ⟨rfl, hb4⟩
       have HNX := Lib.hid (HNX.out.call hb4)
       have HB := Lib.hid (zA0 HB.out hb4)
       have En := Lib.hid (And.intro (En.out.1.below (Nat.le_refl _) hb4) (En.out.2.below (Nat.le_refl _) hb4))
       have Eb := Lib.hid (Eb.out.call hb4)
       clear d0 d1 e0_ e1_
       obtain ⟨d0, d1⟩ := blk2 HNX.out
       obtain ⟨e0_, e1_⟩ := blk2 Eb.out
       clear hb4)
    | (go_at_call 24
       with_reducible refine (SH.out _ HB.out).mono ?_
       rintro e w4 ⟨rfl, hb4⟩
       have HNX := Lib.hid (HNX.out.call hb4)
       have HB := Lib.hid (zA0 HB.out hb4)
       have En := Lib.hid (And.intro (En.out.1.below (Nat.le_refl _) hb4) (En.out.2.below (Nat.le_refl _) hb4))
       have Eb := Lib.hid (Eb.out.call hb4)
       clear d0 d1 e0_ e1_
       obtain ⟨d0, d1⟩ := blk2 HNX.out
       obtain ⟨e0_, e1_⟩ := blk2 Eb.out
       clear hb4)
    | (go_at_call 24
       with_reducible refine (SH2.out _ HB.out).mono ?_
       rintro e w4 ⟨rfl, hb4⟩
       have HNX := Lib.hid (HNX.out.call hb4)
       have HB := Lib.hid (zA0 HB.out hb4)
       have En := Lib.hid (And.intro (En.out.1.below (Nat.le_refl _) hb4) (En.out.2.below (Nat.le_refl _) hb4))
       have Eb := Lib.hid (Eb.out.call hb4)
       clear d0 d1 e0_ e1_
       obtain ⟨d0, d1⟩ := blk2 HNX.out
       obtain ⟨e0_, e1_⟩ := blk2 Eb.out
       clear hb4)
    | (go_at_call 28
       with_reducible refine (SV.out _ HB.out).mono ?_
       rintro e w4 ⟨rfl, hb4⟩
       have HNX := Lib.hid (HNX.out.call hb4)
       have HB := Lib.hid (zA0 HB.out hb4)
       have En := Lib.hid (And.intro (En.out.1.below (Nat.le_refl _) hb4) (En.out.2.below (Nat.le_refl _) hb4))
       have Eb := Lib.hid (Eb.out.call hb4)
       clear d0 d1 e0_ e1_
       obtain ⟨d0, d1⟩ := blk2 HNX.out
       obtain ⟨e0_, e1_⟩ := blk2 Eb.out
       clear hb4))
    go_ret
    exact ⟨rfl, HB.out⟩
  rw [zA2 hp] at SV
  by_cases hp2 : netP D' n' K' m'
  case neg =>
    rw [zA1 hp2] at SV2
    clear hh hh2 hp hp2 hzz hzz2
    go_wp2_with (first
    | (go_at_call 10
       with_reducible refine (zP8 _).mono ?_
       rintro e w4 ⟨rfl, hb4⟩
       have HNX := Lib.hid (HNX.out.call hb4)
       have HB := Lib.hid (zA0 HB.out hb4)
       have En := Lib.hid (And.intro (En.out.1.below (Nat.le_refl _) hb4) (En.out.2.below (Nat.le_refl _) hb4))
       have Eb := Lib.hid (Eb.out.call hb4)
       clear d0 d1 e0_ e1_
       obtain ⟨d0, d1⟩ := blk2 HNX.out
       obtain ⟨e0_, e1_⟩ := blk2 Eb.out
       clear hb4)
    | (go_at_call 24
       with_reducible refine (SH.out _ HB.out).mono ?_
       rintro e w4 ⟨rfl, hb4⟩
       have HNX := Lib.hid (HNX.out.call hb4)
       have HB := Lib.hid (zA0 HB.out hb4)
       have En := Lib.hid (And.intro (En.out.1.below (Nat.le_refl _) hb4) (En.out.2.below (Nat.le_refl _) hb4))
       have Eb := Lib.hid (Eb.out.call hb4)
       clear d0 d1 e0_ e1_
       obtain ⟨d0, d1⟩ := blk2 HNX.out
       obtain ⟨e0_, e1_⟩ := blk2 Eb.out
       clear hb4)
    | (go_at_call 24
       with_reducible refine (SH2.out _ HB.out).mono ?_
       rintro e w4 ⟨rfl, hb4⟩
       have HNX := Lib.hid (HNX.out.call hb4)
       have HB := Lib.hid (zA0 HB.out hb4)
       have En := Lib.hid (And.intro (En.out.1.below (Nat.le_refl _) hb4) (En.out.2.below (Nat.le_refl _) hb4))
       have Eb := Lib.hid (Eb.out.call hb4)
       clear d0 d1 e0_ e1_
       obtain ⟨d0, d1⟩ := blk2 HNX.out
       obtain ⟨e0_, e1_⟩ := blk2 Eb.out
       clear hb4)
    | (go_at_call 28
       with_reducible refine (SV.out _ HB.out).mono ?_
       rintro e w4 ⟨rfl, hb4⟩
       have HNX := Lib.hid (HNX.out.call hb4)
       have HB := Lib.hid (zA0 HB.out hb4)
       have En := Lib.hid (And.intro (En.out.1.below (Nat.le_refl _) hb4) (En.out.2.below (Nat.le_refl _) hb4))
       have Eb := Lib.hid (Eb.out.call hb4)
       clear d0 d1 e0_ e1_
       obtain ⟨d0, d1⟩ := blk2 HNX.out
       obtain ⟨e0_, e1_⟩ := blk2 Eb.out
       clear hb4)
    | (go_at_call 28
       with_reducible refine (SV2.out _ HB.out).mono ?_
       rintro e w4 ⟨rfl, hb4⟩
       have HNX := Lib.hid (HNX.out.call hb4)
       have HB := Lib.hid (zA0 HB.out hb4)
       have En := Lib.hid (And.intro (En.out.1.below (Nat.le_refl _) hb4) (En.out.2.below (Nat.le_refl _) hb4))
       have Eb := Lib.hid (Eb.out.call hb4)
       clear d0 d1 e0_ e1_
       obtain ⟨d0, d1⟩ := blk2 HNX.out
       obtain ⟨e0_, e1_⟩ := blk2 Eb.out
       clear hb4))
    go_ret
    exact ⟨rfl, HB.out⟩
  rw [zA2 hp2] at SV2
  have hv := VS.of hp
  have hv2 := VS.of hp2
  have HVS := Lib.hid hv
  have HVS2 := Lib.hid hv2
  obtain ⟨k1, hk1⟩ : ∃ k, (dfF (recN D n) (recL K m) (recN D' n') (recL K' m')).length = k := ⟨_, rfl⟩
  obtain ⟨k2, hk2⟩ : ∃ k, (dfF (recN D' n') (recL K' m') (recN D n) (recL K m)).length = k := ⟨_, rfl⟩
  have hkb : k1 ≤ 100 ∧ k2 ≤ 100 := by
    have a1 := hvy_not hh
    have a2 := hvy_not hh2
    have q1 := dfF_len (recN D n) (recL K m) (recN D' n') (recL K' m')
    have q2 := dfF_len (recN D' n') (recL K' m') (recN D n) (recL K m)
    rw [zA3, zA3, zA4, zA4] at q1 q2
    omega
  obtain ⟨z, hz⟩ : ∃ z, decide (k1 = 0) = z := ⟨_, rfl⟩
  have hz2 : decide (k2 = 0) = z := by
    rw [← hz]
    have h := dfF_sym hv hv2
    rw [← List.length_eq_zero_iff, ← List.length_eq_zero_iff, hk1, hk2] at h
    by_cases q : k1 = 0
    · rw [decide_eq_true q, decide_eq_true (h.1 q)]
    · rw [decide_eq_false q, decide_eq_false fun r => q (h.2 r)]
  have hza : boolOf (alkP (recN D n) (recL K m) (recN D' n') (recL K' m')) = z := by
    have h := alk_df hv hv2
    rw [← List.length_eq_zero_iff, hk1] at h
    by_cases q : k1 = 0
    · rw [zA2 (h.2 q), ← hz, decide_eq_true q]
    · rw [zA1 (fun r => q (h.1 r)), ← hz, decide_eq_false q]
  have SD1 : Hid (∀ w', Below w.heap.size w w' → Calls Tryz.prog 29 #[.agg #[.slice NA n nc0, .slice LA m lc0], .agg #[.slice NB n' nc1, .slice LB m' lc1]] w' (DfA (dfF (recN D n) (recL K m) (recN D' n') (recL K' m')) k1 w')) := fun w' hb => (sc_Diff NA LA NB LB n nc0 m lc0 n' nc1 m' lc1 D D' K K' w' hv hv2 (zA9 HD.out hb) (zA8 HK.out hb) (zA9 HD2.out hb) (zA8 HK2.out hb)).mono fun e w'' h => df_A h hk1 (by omega)
  have SD2 : Hid (∀ w', Below w.heap.size w w' → Calls Tryz.prog 29 #[.agg #[.slice NB n' nc1, .slice LB m' lc1], .agg #[.slice NA n nc0, .slice LA m lc0]] w' (DfA (dfF (recN D' n') (recL K' m') (recN D n) (recL K m)) k2 w')) := fun w' hb => (sc_Diff NB LB NA LA n' nc1 m' lc1 n nc0 m lc0 D' D K' K w' hv2 hv (zA9 HD2.out hb) (zA8 HK2.out hb) (zA9 HD.out hb) (zA8 HK.out hb)).mono fun e w'' h => df_A h hk2 (by omega)
  have SK : Hid (∀ w', Below w.heap.size w w' → Calls Tryz.prog 30 #[.agg #[.slice NA n nc0, .slice LA m lc0], .agg #[.slice NB n' nc1, .slice LB m' lc1]] w' fun e w'' => e = .returned (.bool z) ∧ Below w'.heap.size w' w'') := fun w' hb => by
    have h := r_alike NA LA NB LB n nc0 m lc0 n' nc1 m' lc1 D D' K K' w' hv hv2 (zA9 HD.out hb) (zA8 HK.out hb) (zA9 HD2.out hb) (zA8 HK2.out hb)
    rw [hza] at h
    exact h
  have HKB := Lib.hid hkb
  have HK12 := Lib.hid (And.intro hk1 hk2)
  have te : ((0 : Int) != 0) = false := by decide
  have tl1 : decide ((100 : Int) < (k1 : Int)) = false := decide_eq_false (by omega)
  have tl1' : decide (100 < k1) = false := decide_eq_false (by omega)
  have tl1g : decide ((k1 : Int) > 100) = false := decide_eq_false (by omega)
  have tz1 : ((k1 : Int) == 0) = z := by rw [← hz]; by_cases q : k1 = 0 <;> simp [q]
  have tz1' : decide ((k1 : Int) = 0) = z := by rw [← hz]; by_cases q : k1 = 0 <;> simp [q]
  have tz2 : ((k2 : Int) == 0) = z := by rw [← hz2]; by_cases q : k2 = 0 <;> simp [q]
  have tz2' : decide ((k2 : Int) = 0) = z := by rw [← hz2]; by_cases q : k2 = 0 <;> simp [q]
  have tz1n := hz
  have tz2n := hz2
  have tb : (z != z) = false := by simp
  clear hh hh2 hp hp2 hzz hzz2 hk1 hk2 hkb hza hz hz2 hv hv2
  go_upto_region 5 with (first
    | (go_at_call 10
       with_reducible refine (zP8 _).mono ?_
       rintro e w4 ⟨rfl, hb4⟩
       have HNX := Lib.hid (HNX.out.call hb4)
       have HB := Lib.hid (zA0 HB.out hb4)
       have En := Lib.hid (And.intro (En.out.1.below (Nat.le_refl _) hb4) (En.out.2.below (Nat.le_refl _) hb4))
       have Eb := Lib.hid (Eb.out.call hb4)
       clear d0 d1 e0_ e1_
       obtain ⟨d0, d1⟩ := blk2 HNX.out
       obtain ⟨e0_, e1_⟩ := blk2 Eb.out
       clear hb4)
    | (go_at_call 24
       with_reducible refine (SH.out _ HB.out).mono ?_
       rintro e w4 ⟨rfl, hb4⟩
       have HNX := Lib.hid (HNX.out.call hb4)
       have HB := Lib.hid (zA0 HB.out hb4)
       have En := Lib.hid (And.intro (En.out.1.below (Nat.le_refl _) hb4) (En.out.2.below (Nat.le_refl _) hb4))
       have Eb := Lib.hid (Eb.out.call hb4)
       clear d0 d1 e0_ e1_
       obtain ⟨d0, d1⟩ := blk2 HNX.out
       obtain ⟨e0_, e1_⟩ := blk2 Eb.out
       clear hb4)
    | (go_at_call 24
       with_reducible refine (SH2.out _ HB.out).mono ?_
       rintro e w4 ⟨rfl, hb4⟩
       have HNX := Lib.hid (HNX.out.call hb4)
       have HB := Lib.hid (zA0 HB.out hb4)
       have En := Lib.hid (And.intro (En.out.1.below (Nat.le_refl _) hb4) (En.out.2.below (Nat.le_refl _) hb4))
       have Eb := Lib.hid (Eb.out.call hb4)
       clear d0 d1 e0_ e1_
       obtain ⟨d0, d1⟩ := blk2 HNX.out
       obtain ⟨e0_, e1_⟩ := blk2 Eb.out
       clear hb4)
    | (go_at_call 28
       with_reducible refine (SV.out _ HB.out).mono ?_
       rintro e w4 ⟨rfl, hb4⟩
       have HNX := Lib.hid (HNX.out.call hb4)
       have HB := Lib.hid (zA0 HB.out hb4)
       have En := Lib.hid (And.intro (En.out.1.below (Nat.le_refl _) hb4) (En.out.2.below (Nat.le_refl _) hb4))
       have Eb := Lib.hid (Eb.out.call hb4)
       clear d0 d1 e0_ e1_
       obtain ⟨d0, d1⟩ := blk2 HNX.out
       obtain ⟨e0_, e1_⟩ := blk2 Eb.out
       clear hb4)
    | (go_at_call 28
       with_reducible refine (SV2.out _ HB.out).mono ?_
       rintro e w4 ⟨rfl, hb4⟩
       have HNX := Lib.hid (HNX.out.call hb4)
       have HB := Lib.hid (zA0 HB.out hb4)
       have En := Lib.hid (And.intro (En.out.1.below (Nat.le_refl _) hb4) (En.out.2.below (Nat.le_refl _) hb4))
       have Eb := Lib.hid (Eb.out.call hb4)
       clear d0 d1 e0_ e1_
       obtain ⟨d0, d1⟩ := blk2 HNX.out
       obtain ⟨e0_, e1_⟩ := blk2 Eb.out
       clear hb4))
  go_upto_region 6 with (first
    | (go_at_call 29
       with_reducible refine (SD1.out _ HB.out).mono ?_
       rintro e w4 ⟨FA, Fc, FK, FX, FY, rfl, h1, r1, hb4⟩
       have Fr := Lib.hid r1
       have Fn := Lib.hid h1
       have HNX := Lib.hid (HNX.out.call hb4)
       have HB := Lib.hid (zA0 HB.out hb4)
       have En := Lib.hid (And.intro (En.out.1.below (Nat.le_refl _) hb4) (En.out.2.below (Nat.le_refl _) hb4))
       have Eb := Lib.hid (Eb.out.call hb4)
       clear d0 d1 e0_ e1_
       obtain ⟨d0, d1⟩ := blk2 HNX.out
       obtain ⟨e0_, e1_⟩ := blk2 Eb.out
       clear hb4 r1 h1))
  go_upto_region 7 with (first
    | (go_at_call 29
       with_reducible refine (SD2.out _ HB.out).mono ?_
       rintro e w4 ⟨GA, Gc, GK, GX, GY, rfl, h1, r1, hb4⟩
       have Gr := Lib.hid r1
       have Gn := Lib.hid h1
       have HNX := Lib.hid (HNX.out.call hb4)
       have HB := Lib.hid (zA0 HB.out hb4)
       have En := Lib.hid (And.intro (En.out.1.below (Nat.le_refl _) hb4) (En.out.2.below (Nat.le_refl _) hb4))
       have Eb := Lib.hid (Eb.out.call hb4)
       have Fn := Lib.hid (Fn.out.below (Nat.le_refl _) hb4)
       clear d0 d1 e0_ e1_
       obtain ⟨d0, d1⟩ := blk2 HNX.out
       obtain ⟨e0_, e1_⟩ := blk2 Eb.out
       clear hb4 r1 h1))
  go_upto_region 9 with (first
    | (go_at_call 30
       with_reducible refine (SK.out _ HB.out).mono ?_
       rintro e w4 ⟨rfl, hb4⟩
       have HNX := Lib.hid (HNX.out.call hb4)
       have HB := Lib.hid (zA0 HB.out hb4)
       have En := Lib.hid (And.intro (En.out.1.below (Nat.le_refl _) hb4) (En.out.2.below (Nat.le_refl _) hb4))
       have Eb := Lib.hid (Eb.out.call hb4)
       have Fn := Lib.hid (Fn.out.below (Nat.le_refl _) hb4)
       have Gn := Lib.hid (Gn.out.below (Nat.le_refl _) hb4)
       clear d0 d1 e0_ e1_
       obtain ⟨d0, d1⟩ := blk2 HNX.out
       obtain ⟨e0_, e1_⟩ := blk2 Eb.out
       clear hb4))
  have hreach := reach_a HVS.out HVS2.out
  obtain ⟨N1, hN1⟩ : ∃ k, aN (recN D n) (dfF (recN D n) (recL K m) (recN D' n') (recL K' m')) = k := ⟨_, rfl⟩
  obtain ⟨L1, hL1⟩ : ∃ k, aL (recL K m) (dfF (recN D n) (recL K m) (recN D' n') (recL K' m')) = k := ⟨_, rfl⟩
  obtain ⟨n2, hn2⟩ : ∃ k, N1.length = k := ⟨_, rfl⟩
  obtain ⟨m2, hm2⟩ : ∃ k, L1.length = k := ⟨_, rfl⟩
  have SA : Hid (∀ w', Below w4.heap.size w4 w' → Calls Tryz.prog 25 #[.agg #[.slice NA n nc0, .slice LA m lc0], .slice FA k1 Fc] w' (AlA N1 L1 n2 m2 k1 w')) := fun w' hb => (sc_ApplyAll NA LA FA n nc0 m lc0 k1 Fc D K FK FX FY w' HVS.out (by have := HKB.out; omega) (zA9 HD.out (zA0 HB.out hb)) (zA8 HK.out (zA0 HB.out hb)) (Fn.out.below (Nat.le_refl _) hb) (rec_z HVS.out.zz HVS2.out.zz Fr.out)).mono fun e w'' h => all_A h Fr.out hreach.1 hN1 hL1 hn2 hm2
  have HR : Hid (VS N1 L1 ∧ N1.Perm (recN D' n') ∧ L1.Perm (recL K' m')) := by
    have h := hreach.2
    rw [hN1, hL1] at h
    exact h
  clear hreach hN1 hL1 hn2 hm2
  go_upto_region 10 with (first
    | (go_at_call 25
       with_reducible refine (SA.out _ (Below.refl _ _)).mono ?_
       rintro e w4 ⟨PX, PY, PA, PB, Pc, Pd, rfl, r1, r2, h1, h2, hb4⟩
       have Pr := Lib.hid (And.intro r1 r2)
       have Pn := Lib.hid (And.intro h1 h2)
       have HNX := Lib.hid (HNX.out.call hb4)
       have HB := Lib.hid (zA0 HB.out hb4)
       have En := Lib.hid (And.intro (En.out.1.below (Nat.le_refl _) hb4) (En.out.2.below (Nat.le_refl _) hb4))
       have Eb := Lib.hid (Eb.out.call hb4)
       have Fn := Lib.hid (Fn.out.below (Nat.le_refl _) hb4)
       have Gn := Lib.hid (Gn.out.below (Nat.le_refl _) hb4)
       clear d0 d1 e0_ e1_
       obtain ⟨d0, d1⟩ := blk2 HNX.out
       obtain ⟨e0_, e1_⟩ := blk2 Eb.out
       clear hb4 r1 r2 h1 h2))
  have hal : Below w4.heap.size w4 (w4.alloc (Obj.cells #[.slice PA n2 Pc, .slice PB m2 Pd] 52)) := (Below.refl _ w4).alloc (Nat.le_refl _) _
  have Pb : Hid (Blk (w4.alloc (Obj.cells #[.slice PA n2 Pc, .slice PB m2 Pd] 52)) w4.heap.size 52 #[.slice PA n2 Pc, .slice PB m2 Pd]) := Blk.new _ _ _
  have Pn := Lib.hid (And.intro (Pn.out.1.below (Nat.le_refl _) hal) (Pn.out.2.below (Nat.le_refl _) hal))
  have HNX := Lib.hid (HNX.out.call hal)
  have HB := Lib.hid (zA0 HB.out hal)
  have En := Lib.hid (And.intro (En.out.1.below (Nat.le_refl _) hal) (En.out.2.below (Nat.le_refl _) hal))
  have Eb := Lib.hid (Eb.out.call hal)
  have Fn := Lib.hid (Fn.out.below (Nat.le_refl _) hal)
  have Gn := Lib.hid (Gn.out.below (Nat.le_refl _) hal)
  clear hal d0 d1 e0_ e1_
  generalize w4.alloc (Obj.cells #[.slice PA n2 Pc, .slice PB m2 Pd] 52) = w5 at HNX HB En Eb Fn Gn Pn Pb ⊢
  generalize w4.heap.size = Pg at Pb ⊢
  obtain ⟨d0, d1⟩ := blk2 HNX.out
  obtain ⟨e0_, e1_⟩ := blk2 Eb.out
  obtain ⟨p0_, p1_⟩ := blk2 Pb.out
  clear SA
  have VP : Hid (VS (recN PX n2) (recL PY m2)) := by show VS _ _; rw [Pr.out.1, Pr.out.2]; exact HR.out.1
  have SV3 : Hid (∀ w', Below w5.heap.size w5 w' → Calls Tryz.prog 28 #[.agg #[.slice PA n2 Pc, .slice PB m2 Pd]] w' fun e w'' => e = .returned (.bool true) ∧ Below w'.heap.size w' w'') := fun w' hb => by
    have h := zD6 PA PB n2 Pc m2 Pd PX PY VP.out.zz.sz w' (zA9 Pn.out.1 hb) (zA8 Pn.out.2 hb)
    rw [zA2 VP.out.to] at h
    exact h
  have SK3 : Hid (∀ w', Below w5.heap.size w5 w' → Calls Tryz.prog 30 #[.agg #[.slice PA n2 Pc, .slice PB m2 Pd], .agg #[.slice NB n' nc1, .slice LB m' lc1]] w' fun e w'' => e = .returned (.bool true) ∧ Below w'.heap.size w' w'') := fun w' hb => by
    have h := r_alike PA PB NB LB n2 Pc m2 Pd n' nc1 m' lc1 PX D' PY K' w' VP.out HVS2.out (zA9 Pn.out.1 hb) (zA8 Pn.out.2 hb) (zA9 HD2.out (zA0 HB.out hb)) (zA8 HK2.out (zA0 HB.out hb))
    rw [zA2 ((alk_perm VP.out HVS2.out).2 ⟨by rw [Pr.out.1]; exact HR.out.2.1, by rw [Pr.out.2]; exact HR.out.2.2⟩)] at h
    exact h
  have HW : Hid (Below w5.heap.size w5 w5) := Below.refl _ _
  go_upto_region 12 with (first
    | (go_at_call 28
       with_reducible refine (SV3.out _ HW.out).mono ?_
       rintro e w4 ⟨rfl, hb4⟩
       have HNX := Lib.hid (HNX.out.call hb4)
       have HB := Lib.hid (zA0 HB.out hb4)
       have En := Lib.hid (And.intro (En.out.1.below (Nat.le_refl _) hb4) (En.out.2.below (Nat.le_refl _) hb4))
       have Eb := Lib.hid (Eb.out.call hb4)
       have Fn := Lib.hid (Fn.out.below (Nat.le_refl _) hb4)
       have Gn := Lib.hid (Gn.out.below (Nat.le_refl _) hb4)
       have Pn := Lib.hid (And.intro (Pn.out.1.below (Nat.le_refl _) hb4) (Pn.out.2.below (Nat.le_refl _) hb4))
       have Pb := Lib.hid (Pb.out.call hb4)
       clear d0 d1 e0_ e1_ p0_ p1_
       obtain ⟨d0, d1⟩ := blk2 HNX.out
       obtain ⟨e0_, e1_⟩ := blk2 Eb.out
       obtain ⟨p0_, p1_⟩ := blk2 Pb.out
       have HW := Lib.hid (zA0 HW.out hb4)
       clear hb4)
    | (go_at_call 30
       with_reducible refine (SK3.out _ HW.out).mono ?_
       rintro e w4 ⟨rfl, hb4⟩
       have HNX := Lib.hid (HNX.out.call hb4)
       have HB := Lib.hid (zA0 HB.out hb4)
       have En := Lib.hid (And.intro (En.out.1.below (Nat.le_refl _) hb4) (En.out.2.below (Nat.le_refl _) hb4))
       have Eb := Lib.hid (Eb.out.call hb4)
       have Fn := Lib.hid (Fn.out.below (Nat.le_refl _) hb4)
       have Gn := Lib.hid (Gn.out.below (Nat.le_refl _) hb4)
       have Pn := Lib.hid (And.intro (Pn.out.1.below (Nat.le_refl _) hb4) (Pn.out.2.below (Nat.le_refl _) hb4))
       have Pb := Lib.hid (Pb.out.call hb4)
       clear d0 d1 e0_ e1_ p0_ p1_
       obtain ⟨d0, d1⟩ := blk2 HNX.out
       obtain ⟨e0_, e1_⟩ := blk2 Eb.out
       obtain ⟨p0_, p1_⟩ := blk2 Pb.out
       have HW := Lib.hid (zA0 HW.out hb4)
       clear hb4))
  have hback := dfF_to HR.out.1 HVS.out HR.out.2.1.symm HR.out.2.2.symm HVS2.out
  obtain ⟨N3, hN3⟩ : ∃ k, aN N1 (dfF (recN D' n') (recL K' m') (recN D n) (recL K m)) = k := ⟨_, rfl⟩
  obtain ⟨L3, hL3⟩ : ∃ k, aL L1 (dfF (recN D' n') (recL K' m') (recN D n) (recL K m)) = k := ⟨_, rfl⟩
  obtain ⟨n4, hn4⟩ : ∃ k, N3.length = k := ⟨_, rfl⟩
  obtain ⟨m4, hm4⟩ : ∃ k, L3.length = k := ⟨_, rfl⟩
  have SA2 : Hid (∀ w', Below w4.heap.size w4 w' → Calls Tryz.prog 25 #[.agg #[.slice PA n2 Pc, .slice PB m2 Pd], .slice GA k2 Gc] w' (AlA N3 L3 n4 m4 k2 w')) := fun w' hb => (sc_ApplyAll PA PB GA n2 Pc m2 Pd k2 Gc PX PY GK GX GY w' VP.out (by have := HKB.out; omega) (zA9 Pn.out.1 hb) (zA8 Pn.out.2 hb) (Gn.out.below (Nat.le_refl _) hb) (rec_z HVS2.out.zz HVS.out.zz Gr.out)).mono fun e w'' h => by
    rw [Pr.out.1, Pr.out.2] at h
    exact all_A h Gr.out hback.1 hN3 hL3 hn4 hm4
  have HR3 : Hid (VS N3 L3 ∧ N3.Perm (recN D n) ∧ L3.Perm (recL K m)) := by
    have h := hback.2
    rw [hN3, hL3] at h
    exact h
  clear hback hN3 hL3 hn4 hm4 SV3 SK3 HW
  go_upto_region 13 with (first
    | (go_at_call 25
       with_reducible refine (SA2.out _ (Below.refl _ _)).mono ?_
       rintro e w4 ⟨QX, QY, QA, QB, Qc, Qd, rfl, r1, r2, h1, h2, hb4⟩
       have Qr := Lib.hid (And.intro r1 r2)
       have Qn := Lib.hid (And.intro h1 h2)
       have HNX := Lib.hid (HNX.out.call hb4)
       have HB := Lib.hid (zA0 HB.out hb4)
       have En := Lib.hid (And.intro (En.out.1.below (Nat.le_refl _) hb4) (En.out.2.below (Nat.le_refl _) hb4))
       have Eb := Lib.hid (Eb.out.call hb4)
       have Fn := Lib.hid (Fn.out.below (Nat.le_refl _) hb4)
       have Gn := Lib.hid (Gn.out.below (Nat.le_refl _) hb4)
       have Pn := Lib.hid (And.intro (Pn.out.1.below (Nat.le_refl _) hb4) (Pn.out.2.below (Nat.le_refl _) hb4))
       have Pb := Lib.hid (Pb.out.call hb4)
       clear d0 d1 e0_ e1_ p0_ p1_
       obtain ⟨d0, d1⟩ := blk2 HNX.out
       obtain ⟨e0_, e1_⟩ := blk2 Eb.out
       obtain ⟨p0_, p1_⟩ := blk2 Pb.out
       clear hb4 r1 r2 h1 h2))
  have hal : Below w4.heap.size w4 (w4.alloc (Obj.cells #[.slice QA n4 Qc, .slice QB m4 Qd] 52)) := (Below.refl _ w4).alloc (Nat.le_refl _) _
  have Qb : Hid (Blk (w4.alloc (Obj.cells #[.slice QA n4 Qc, .slice QB m4 Qd] 52)) w4.heap.size 52 #[.slice QA n4 Qc, .slice QB m4 Qd]) := Blk.new _ _ _
  have Qn := Lib.hid (And.intro (Qn.out.1.below (Nat.le_refl _) hal) (Qn.out.2.below (Nat.le_refl _) hal))
  have HNX := Lib.hid (HNX.out.call hal)
  have HB := Lib.hid (zA0 HB.out hal)
  have En := Lib.hid (And.intro (En.out.1.below (Nat.le_refl _) hal) (En.out.2.below (Nat.le_refl _) hal))
  have Eb := Lib.hid (Eb.out.call hal)
  have Fn := Lib.hid (Fn.out.below (Nat.le_refl _) hal)
  have Gn := Lib.hid (Gn.out.below (Nat.le_refl _) hal)
  have Pn := Lib.hid (And.intro (Pn.out.1.below (Nat.le_refl _) hal) (Pn.out.2.below (Nat.le_refl _) hal))
  have Pb := Lib.hid (Pb.out.call hal)
  clear hal d0 d1 e0_ e1_ p0_ p1_
  generalize w4.alloc (Obj.cells #[.slice QA n4 Qc, .slice QB m4 Qd] 52) = w6 at HNX HB En Eb Fn Gn Pn Pb Qn Qb ⊢
  generalize w4.heap.size = Qg at Qb ⊢
  obtain ⟨d0, d1⟩ := blk2 HNX.out
  obtain ⟨e0_, e1_⟩ := blk2 Eb.out
  obtain ⟨p0_, p1_⟩ := blk2 Pb.out
  obtain ⟨q0_, q1_⟩ := blk2 Qb.out
  clear SA2
  have VQ : Hid (VS (recN QX n4) (recL QY m4)) := by show VS _ _; rw [Qr.out.1, Qr.out.2]; exact HR3.out.1
  have SV4 : Hid (∀ w', Below w6.heap.size w6 w' → Calls Tryz.prog 28 #[.agg #[.slice QA n4 Qc, .slice QB m4 Qd]] w' fun e w'' => e = .returned (.bool true) ∧ Below w'.heap.size w' w'') := fun w' hb => by
    have h := zD6 QA QB n4 Qc m4 Qd QX QY VQ.out.zz.sz w' (zA9 Qn.out.1 hb) (zA8 Qn.out.2 hb)
    rw [zA2 VQ.out.to] at h
    exact h
  have SK4 : Hid (∀ w', Below w6.heap.size w6 w' → Calls Tryz.prog 30 #[.agg #[.slice QA n4 Qc, .slice QB m4 Qd], .agg #[.slice NA n nc0, .slice LA m lc0]] w' fun e w'' => e = .returned (.bool true) ∧ Below w'.heap.size w' w'') := fun w' hb => by
    have h := r_alike QA QB NA LA n4 Qc m4 Qd n nc0 m lc0 QX D QY K w' VQ.out HVS.out (zA9 Qn.out.1 hb) (zA8 Qn.out.2 hb) (zA9 HD.out (zA0 HB.out hb)) (zA8 HK.out (zA0 HB.out hb))
    rw [zA2 ((alk_perm VQ.out HVS.out).2 ⟨by rw [Qr.out.1]; exact HR3.out.2.1, by rw [Qr.out.2]; exact HR3.out.2.2⟩)] at h
    exact h
  have HW : Hid (Below w6.heap.size w6 w6) := Below.refl _ _
  go_wp2_with (first
    | (go_at_call 28
       with_reducible refine (SV4.out _ HW.out).mono ?_
       rintro e w4 ⟨rfl, hb4⟩
       have HNX := Lib.hid (HNX.out.call hb4)
       have HB := Lib.hid (zA0 HB.out hb4)
       have En := Lib.hid (And.intro (En.out.1.below (Nat.le_refl _) hb4) (En.out.2.below (Nat.le_refl _) hb4))
       have Eb := Lib.hid (Eb.out.call hb4)
       have Fn := Lib.hid (Fn.out.below (Nat.le_refl _) hb4)
       have Gn := Lib.hid (Gn.out.below (Nat.le_refl _) hb4)
       have Pn := Lib.hid (And.intro (Pn.out.1.below (Nat.le_refl _) hb4) (Pn.out.2.below (Nat.le_refl _) hb4))
       have Pb := Lib.hid (Pb.out.call hb4)
       have Qn := Lib.hid (And.intro (Qn.out.1.below (Nat.le_refl _) hb4) (Qn.out.2.below (Nat.le_refl _) hb4))
       have Qb := Lib.hid (Qb.out.call hb4)
       clear d0 d1 e0_ e1_ p0_ p1_ q0_ q1_
       obtain ⟨d0, d1⟩ := blk2 HNX.out
       obtain ⟨e0_, e1_⟩ := blk2 Eb.out
       obtain ⟨p0_, p1_⟩ := blk2 Pb.out
       obtain ⟨q0_, q1_⟩ := blk2 Qb.out
       have HW := Lib.hid (zA0 HW.out hb4)
       clear hb4)
    | (go_at_call 30
       with_reducible refine (SK4.out _ HW.out).mono ?_
       rintro e w4 ⟨rfl, hb4⟩
       have HNX := Lib.hid (HNX.out.call hb4)
       have HB := Lib.hid (zA0 HB.out hb4)
       have En := Lib.hid (And.intro (En.out.1.below (Nat.le_refl _) hb4) (En.out.2.below (Nat.le_refl _) hb4))
       have Eb := Lib.hid (Eb.out.call hb4)
       have Fn := Lib.hid (Fn.out.below (Nat.le_refl _) hb4)
       have Gn := Lib.hid (Gn.out.below (Nat.le_refl _) hb4)
       have Pn := Lib.hid (And.intro (Pn.out.1.below (Nat.le_refl _) hb4) (Pn.out.2.below (Nat.le_refl _) hb4))
       have Pb := Lib.hid (Pb.out.call hb4)
       have Qn := Lib.hid (And.intro (Qn.out.1.below (Nat.le_refl _) hb4) (Qn.out.2.below (Nat.le_refl _) hb4))
       have Qb := Lib.hid (Qb.out.call hb4)
       clear d0 d1 e0_ e1_ p0_ p1_ q0_ q1_
       obtain ⟨d0, d1⟩ := blk2 HNX.out
       obtain ⟨e0_, e1_⟩ := blk2 Eb.out
       obtain ⟨p0_, p1_⟩ := blk2 Pb.out
       obtain ⟨q0_, q1_⟩ := blk2 Qb.out
       have HW := Lib.hid (zA0 HW.out hb4)
       clear hb4))
  go_ret
  exact ⟨rfl, HB.out⟩
end Go.Proofs.YtchakniaoeodmaaGreatDoor

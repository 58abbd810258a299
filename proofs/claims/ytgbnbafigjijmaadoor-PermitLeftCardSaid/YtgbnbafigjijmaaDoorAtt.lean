/- The instant at which a year begins, by the package. -/
import Derived.Test.YtgbnbafigjijmaaDoorSpl
import Derived.Test.YtgbnbafigjijmaaDoorLft
namespace Go.Proofs.YtgbnbafigjijmaaDoor
open Go.RowKit Go.Sort
set_option linter.unusedVariables false
set_option linter.unusedSimpArgs false

set_option maxRecDepth 100000 in
set_option maxHeartbeats 4000000 in
theorem tvdate (y : Int) (h1 : 1 ≤ y) (h2 : y ≤ 9999) (w : World) : Calls Tryd.prog 73 #[.agg #[.int .i64 y, .int .i64 1, .int .i64 1]] w fun e w' => e = .returned (.bool true) ∧ Below w.heap.size w w' := by
  obtain ⟨Y, hY⟩ : ∃ Y : Nat, (Y : Int) = y := ⟨y.toNat, by omega⟩
  have s4 := fun w => tmonth Y 1 (by omega) (by omega) (by omega) (by omega) w
  rw [hY] at s4
  have e31 : lens (leapB y) 1 = 31 := rfl
  rw [e31] at s4
  have S4 : Hid (∀ w, Calls Tryd.prog 60 #[.int .i64 y, .int .i64 1] w fun e w' => e = .returned (.int .i64 31) ∧ Below w.heap.size w w') := s4
  have t1 : decide ((1 : Int) ≤ y) = true := decide_eq_true h1
  have t2 : decide (y ≤ (9999 : Int)) = true := decide_eq_true h2
  have B0 : Hid (Blk (w.alloc (Obj.cells #[.int .i64 y, .int .i64 1, .int .i64 1] 35)) w.heap.size 35 #[.int .i64 y, .int .i64 1, .int .i64 1]) := Blk.new _ _ _
  have W0 : Hid (Below w.heap.size w (w.alloc (Obj.cells #[.int .i64 y, .int .i64 1, .int .i64 1] 35))) := (Below.refl _ _).alloc (Nat.le_refl _) _
  clear s4 h1 h2 hY e31
  go_enter Tryd.func73, Tryd.ntmps73
  go_wp2_with fail
  go_region_law (go_simp
                 go_at_call 60
                 with_reducible refine (S4.out _).mono ?_
                 rintro e w1 ⟨rfl, hb1⟩
                 have HB1 := Lib.hid (below_step W0.out.drew hb1)
                 obtain ⟨z0, z1, z2⟩ := date_cells ((B0.out.drewN 1).call hb1)
                 clear hb1)
  all_goals (go_wp2_with fail)
  all_goals (go_ret; exact ⟨rfl, HB1.out⟩)
set_option maxRecDepth 100000 in
set_option maxHeartbeats 4000000 in
theorem tnumber (y : Int) (h1 : 1 ≤ y) (h2 : y ≤ 9999) (w : World) : Calls Tryd.prog 51 #[.agg #[.int .i64 y, .int .i64 1, .int .i64 1]] w fun e w' => e = .returned (.tuple #[.int .i64 (yb y), .int .i64 0]) ∧ Below w.heap.size w w' := by
  obtain ⟨Y, hY⟩ : ∃ Y : Nat, (Y : Int) = y := ⟨y.toNat, by omega⟩
  have b1 := yb_le h1
  have b2 := yb_le (show y ≤ 10000 by omega)
  rw [yb_1] at b1
  rw [yb_10000] at b2
  have s3 := fun w => tbefore Y (by omega) (by omega) w
  rw [hY] at s3
  have SV := Lib.hid fun w => tvdate y h1 h2 w
  obtain ⟨z, hz⟩ : ∃ z, z = yb y := ⟨_, rfl⟩
  rw [← hz] at s3 b1 b2 ⊢
  have S3 := Lib.hid s3
  obtain ⟨a, ha⟩ : ∃ a, a = z + 1 := ⟨_, rfl⟩
  have x1 : IntKind.i64.wrap (z + 1) = a := by rw [IntKind.wrap_i64]; omega
  have x2 : IntKind.i64.wrap (a - 1) = z := by rw [IntKind.wrap_i64]; omega
  have B0 : Hid (Blk (w.alloc (Obj.cells #[.int .i64 y, .int .i64 1, .int .i64 1] 35)) w.heap.size 35 #[.int .i64 y, .int .i64 1, .int .i64 1]) := Blk.new _ _ _
  have W0 : Hid (Below w.heap.size w (w.alloc (Obj.cells #[.int .i64 y, .int .i64 1, .int .i64 1] 35))) := (Below.refl _ _).alloc (Nat.le_refl _) _
  clear s3 h1 h2 hY b1 b2 hz ha
  go_enter Tryd.func51, Tryd.ntmps51
  go_upto_region 3 with (first
    | (go_at_call 73
       with_reducible refine (SV.out _).mono ?_
       rintro e w1 ⟨rfl, hb1⟩
       have B1 := Lib.hid (B0.out.call hb1)
       have W1 := Lib.hid (below_step W0.out hb1)
       obtain ⟨z0, z1, z2⟩ := date_cells B1.out
       clear hb1))
  go_cut [4] from 9 to 15 (fun x wx => x = .int .i64 z ∧ Blk wx w.heap.size 35 #[.int .i64 y, .int .i64 1, .int .i64 1] ∧ Below w.heap.size w wx)
  case first =>
    go_quiet ((go_at_call 57; with_reducible exact quiet_left (S3.out _)))
    go_wp2_with fail
    go_meet
    exact ⟨rfl, B1.out.drewN _, below_drewN W1.out _⟩
  case rest =>
    obtain ⟨rfl, hb, hw⟩ := hcut
    generalize wc = wz at hb hw ⊢
    have HB := Lib.hid hb
    have HW := Lib.hid hw
    clear hb hw z0 z1 z2
    obtain ⟨z0, z1, z2⟩ := date_cells HB.out
    go_wp2_with fail
    go_loopw [4, 5] (fun u v wr => u = .int .i64 z ∧ v = .int .i64 1 ∧ wz = wr) (fun _ _ _ => 0)
    case atStart => exact ⟨rfl, rfl, rfl⟩
    case round =>
      obtain ⟨rfl, rfl, rfl⟩ := hrel
      go_wp2_with fail
      go_ret2
      exact ⟨rfl, HW.out⟩
set_option maxRecDepth 100000 in
set_option maxHeartbeats 4000000 in
/-- The instant at which a year begins. -/
theorem tat (y : Int) (h1 : 1 ≤ y) (h2 : y ≤ 9999) (w : World) : Calls Tryd.prog 27 #[.agg #[.int .i64 y, .int .i64 1, .int .i64 1], .int .i64 0] w fun e w' => e = .returned (if InstP (yb y * 86400) then .tuple #[.int .i64 (yb y * 86400), .int .i64 0] else .tuple #[.int .i64 0, .int .i64 5]) ∧ Below w.heap.size w w' := by
  have b1 := yb_le h1
  have b2 := yb_le (show y ≤ 10000 by omega)
  rw [yb_1] at b1
  rw [yb_10000] at b2
  have SN := Lib.hid fun w => tnumber y h1 h2 w
  obtain ⟨z, hz⟩ : ∃ z, z = yb y := ⟨_, rfl⟩
  rw [← hz] at b1 b2 SN ⊢
  obtain ⟨t, ht⟩ : ∃ t, t = z * 86400 := ⟨_, rfl⟩
  have x1 : IntKind.i64.wrap (z * 86400) = t := by rw [IntKind.wrap_i64]; omega
  have x2 : IntKind.i64.wrap (t + 0) = t := by rw [IntKind.wrap_i64]; omega
  have x3 : IntKind.i64.wrap t = t := by rw [IntKind.wrap_i64]; omega
  rw [← ht]
  have SI := fun w => tinst t w
  have W0 : Hid (Below w.heap.size w (w.alloc (Obj.cells #[.int .i64 y, .int .i64 1, .int .i64 1] 35))) := (Below.refl _ _).alloc (Nat.le_refl _) _
  clear h1 h2 b1 b2 hz ht
  by_cases hI : InstP t
  · rw [if_pos hI]
    rw [decide_eq_true hI] at SI
    have SI := Lib.hid SI
    clear hI
    go_enter Tryd.func27, Tryd.ntmps27
    go_wp2_with (first
      | (go_at_call 51
         with_reducible refine (SN.out _).mono ?_
         rintro e w1 ⟨rfl, hb1⟩
         have W1 := Lib.hid (below_step W0.out hb1)
         clear hb1)
      | (go_at_call 35; (with_reducible refine (SI.out _).mono ?_); rintro e w' ⟨rfl, rfl⟩))
    go_ret2
    exact ⟨rfl, W1.out⟩
  · rw [if_neg hI]
    rw [decide_eq_false hI] at SI
    have SI := Lib.hid SI
    clear hI
    go_enter Tryd.func27, Tryd.ntmps27
    go_wp2_with (first
      | (go_at_call 51
         with_reducible refine (SN.out _).mono ?_
         rintro e w1 ⟨rfl, hb1⟩
         have W1 := Lib.hid (below_step W0.out hb1)
         clear hb1)
      | (go_at_call 35; (with_reducible refine (SI.out _).mono ?_); rintro e w' ⟨rfl, rfl⟩))
    go_ret2
    exact ⟨rfl, W1.out⟩
end Go.Proofs.YtgbnbafigjijmaaDoor

/- The reference's sum of a number and a negative one, and its order of two numbers. -/
import Derived.Test.YtpeelnjkppdkbaaGreatRefN
import Derived.Test.YtpeelnjkppdkbaaGreatAdd
import Derived.Deep.RegionWith
import Derived.Deep.RegionHeld3
import Derived.Deep.Cut
import Derived.Deep.CutRange
namespace Go.Proofs.YtpeelnjkppdkbaaGreat
open Go.RowKit
set_option linter.unusedVariables false
set_option linter.unusedSimpArgs false

set_option maxHeartbeats 2000000 in
theorem rsum_lt (p q : Nat) (h : p < q) (hq : q < 340282366920938463463374607431768211456) (w : World) :
    Calls Tryz.prog 78 #[.agg #[.int .u64 (hi64 p), .int .u64 (lo64 p), .bool false], .agg #[.int .u64 (hi64 q), .int .u64 (lo64 q), .bool true]] w fun e w' => e = .returned (.agg #[.int .u64 (hi64 (q - p)), .int .u64 (lo64 (q - p)), .bool true]) ∧ Below w.heap.size w w' := by
  have S1 := Lib.hid fun w => rless p q true (decide_eq_true h).symm w
  have S2 := Lib.hid fun w => rminus q p (Nat.le_of_lt h) hq w
  have S3 := fun w => rmade_t (q - p) (by omega) w
  rw [nz_pos (by omega)] at S3
  have S3 := Lib.hid S3
  obtain ⟨a1, ha1⟩ : ∃ z, z = hi64 p := ⟨_, rfl⟩
  obtain ⟨a0, ha0⟩ : ∃ z, z = lo64 p := ⟨_, rfl⟩
  obtain ⟨b1, hb1'⟩ : ∃ z, z = hi64 q := ⟨_, rfl⟩
  obtain ⟨b0, hb0'⟩ : ∃ z, z = lo64 q := ⟨_, rfl⟩
  obtain ⟨c1, hc1'⟩ : ∃ z, z = hi64 (q - p) := ⟨_, rfl⟩
  obtain ⟨c0, hc0'⟩ : ∃ z, z = lo64 (q - p) := ⟨_, rfl⟩
  rw [← ha1, ← ha0, ← hb1', ← hb0'] at S1
  rw [← ha1, ← ha0, ← hb1', ← hb0', ← hc1', ← hc0'] at S2
  rw [← hc1', ← hc0'] at S3
  rw [← ha1, ← ha0, ← hb1', ← hb0', ← hc1', ← hc0']
  clear h hq ha1 ha0 hb1' hb0' hc1' hc0'
  go_enter Tryz.func78, Tryz.ntmps78
  go_upto_region 4 with (first | (go_at_call 99; (with_reducible refine (S1.out _).mono ?_); rintro e w1 ⟨rfl, hb1⟩; obtain ⟨hc1, hf1⟩ := bcell hb1; have hz1 := hb1.size; (try simp at hz1); (try simp only [heap_drew, World.heap_drewN] at hz1); (try simp only [heap_drew, World.heap_drewN] at hc1); (try simp only [heap_drew, World.heap_drewN] at hf1); (try have hs1 := Nat.lt_of_succ_le hz1); (try have hs2 := Nat.lt_of_succ_lt hs1); (try have y0 : w.heap.size < w1.heap.size := by omega); (try have y1 : w.heap.size + 1 < w1.heap.size := by omega); (try have y2 : w.heap.size + 2 < w1.heap.size := by omega)))
  have d0 : w1.cell? ⟨w.heap.size, 0, none⟩ = some (.int .u64 a1) := by simp [go_sem, *]
  have d1 : w1.cell? ⟨w.heap.size, 1, none⟩ = some (.int .u64 a0) := by simp [go_sem, *]
  have d2 : w1.cell? ⟨w.heap.size, 2, none⟩ = some (.bool false) := by simp [go_sem, *]
  have e0 : w1.cell? ⟨w.heap.size + 1, 0, none⟩ = some (.int .u64 b1) := by simp [go_sem, *]
  have e1 : w1.cell? ⟨w.heap.size + 1, 1, none⟩ = some (.int .u64 b0) := by simp [go_sem, *]
  have e2 : w1.cell? ⟨w.heap.size + 1, 2, none⟩ = some (.bool true) := by simp [go_sem, *]
  have hbw : Below w.heap.size w w1 := by (repeat' (first | assumption | exact Below.refl _ _ | exact Below.size (by assumption) | (refine Below.setCell ?_ ?_ _) | (refine Below.alloc ?_ ?_ _) | (refine Below.drew ?_) | (refine below_drewN ?_ _) | (refine Below.trans ?_ (Below.mono ‹Below _ _ _› ?_)) | omega | (simp; done) | (simp; omega) | (simp at *; omega)))
  have hsw : w.heap.size + 2 < w1.heap.size := by first | assumption | omega
  have r0 : w1.cell? ⟨w.heap.size + 2, 0, none⟩ = some (.int .u64 0) := by simp [go_sem, *]
  have r1 : w1.cell? ⟨w.heap.size + 2, 1, none⟩ = some (.int .u64 0) := by simp [go_sem, *]
  have r2 : w1.cell? ⟨w.heap.size + 2, 2, none⟩ = some (.bool false) := by simp [go_sem, *]
  have f0 : w1.frozen? ⟨w.heap.size + 2, 0, none⟩ = false := by simp [go_sem, *]
  have f1 : w1.frozen? ⟨w.heap.size + 2, 1, none⟩ = false := by simp [go_sem, *]
  have f2 : w1.frozen? ⟨w.heap.size + 2, 2, none⟩ = false := by simp [go_sem, *]
  go_region_with (first | (go_at_call 100; (with_reducible refine (S2.out _).mono ?_); rintro e w2 ⟨rfl, hb2⟩; obtain ⟨hc2, hf2⟩ := bcell hb2; have hz2 := hb2.size; (try simp at hz2); (try simp only [heap_drew, World.heap_drewN] at hz2); (try simp only [heap_drew, World.heap_drewN] at hc2); (try simp only [heap_drew, World.heap_drewN] at hf2); (try have hs1 := Nat.lt_of_succ_le hz2); (try have hs2 := Nat.lt_of_succ_lt hs1); (try have y0 : w.heap.size < w2.heap.size := by omega); (try have y1 : w.heap.size + 1 < w2.heap.size := by omega); (try have y2 : w.heap.size + 2 < w2.heap.size := by omega)) | (go_at_call 80; (with_reducible refine (S3.out _).mono ?_); rintro e w3 ⟨rfl, hb3⟩; obtain ⟨hc3, hf3⟩ := bcell hb3; have hz3 := hb3.size; (try simp at hz3); (try simp only [heap_drew, World.heap_drewN] at hz3); (try simp only [heap_drew, World.heap_drewN] at hc3); (try simp only [heap_drew, World.heap_drewN] at hf3); (try have hs1 := Nat.lt_of_succ_le hz3); (try have hs2 := Nat.lt_of_succ_lt hs1); (try have y0 : w.heap.size < w3.heap.size := by omega); (try have y1 : w.heap.size + 1 < w3.heap.size := by omega); (try have y2 : w.heap.size + 2 < w3.heap.size := by omega)))
  all_goals (go_wp2_with fail)
  all_goals (refine bodyPost_ret (v := .agg #[.int .u64 c1, .int .u64 c0, .bool true]) (by simp [results, Tryz.results78, go_sem, *]) rfl ⟨rfl, ?_⟩)
  all_goals ((repeat' (first | assumption | exact Below.refl _ _ | exact Below.size (by assumption) | (refine Below.setCell ?_ ?_ _) | (refine Below.alloc ?_ ?_ _) | (refine Below.drew ?_) | (refine below_drewN ?_ _) | (refine Below.trans ?_ (Below.mono ‹Below _ _ _› ?_)) | omega | (simp; done) | (simp; omega) | (simp at *; omega))))
set_option maxHeartbeats 2000000 in
theorem rsum_ge (p q : Nat) (h : q ≤ p) (hp : p < 340282366920938463463374607431768211456) (w : World) :
    Calls Tryz.prog 78 #[.agg #[.int .u64 (hi64 p), .int .u64 (lo64 p), .bool false], .agg #[.int .u64 (hi64 q), .int .u64 (lo64 q), .bool true]] w fun e w' => e = .returned (.agg #[.int .u64 (hi64 (p - q)), .int .u64 (lo64 (p - q)), .bool false]) ∧ Below w.heap.size w w' := by
  have S1 := Lib.hid fun w => rless p q false (decide_eq_false (by omega)).symm w
  have S2 := Lib.hid fun w => rminus p q h hp w
  have S3 := Lib.hid fun w => rmade (p - q) w
  obtain ⟨a1, ha1⟩ : ∃ z, z = hi64 p := ⟨_, rfl⟩
  obtain ⟨a0, ha0⟩ : ∃ z, z = lo64 p := ⟨_, rfl⟩
  obtain ⟨b1, hb1'⟩ : ∃ z, z = hi64 q := ⟨_, rfl⟩
  obtain ⟨b0, hb0'⟩ : ∃ z, z = lo64 q := ⟨_, rfl⟩
  obtain ⟨c1, hc1'⟩ : ∃ z, z = hi64 (p - q) := ⟨_, rfl⟩
  obtain ⟨c0, hc0'⟩ : ∃ z, z = lo64 (p - q) := ⟨_, rfl⟩
  rw [← ha1, ← ha0, ← hb1', ← hb0'] at S1
  rw [← ha1, ← ha0, ← hb1', ← hb0', ← hc1', ← hc0'] at S2
  rw [← hc1', ← hc0'] at S3
  rw [← ha1, ← ha0, ← hb1', ← hb0', ← hc1', ← hc0']
  clear h hp ha1 ha0 hb1' hb0' hc1' hc0'
  go_enter Tryz.func78, Tryz.ntmps78
  go_upto_region 5 with (first | (go_at_call 99; (with_reducible refine (S1.out _).mono ?_); rintro e w1 ⟨rfl, hb1⟩; obtain ⟨hc1, hf1⟩ := bcell hb1; have hz1 := hb1.size; (try simp at hz1); (try simp only [heap_drew, World.heap_drewN] at hz1); (try simp only [heap_drew, World.heap_drewN] at hc1); (try simp only [heap_drew, World.heap_drewN] at hf1); (try have hs1 := Nat.lt_of_succ_le hz1); (try have hs2 := Nat.lt_of_succ_lt hs1); (try have y0 : w.heap.size < w1.heap.size := by omega); (try have y1 : w.heap.size + 1 < w1.heap.size := by omega); (try have y2 : w.heap.size + 2 < w1.heap.size := by omega)))
  have d0 : w1.cell? ⟨w.heap.size, 0, none⟩ = some (.int .u64 a1) := by simp [go_sem, *]
  have d1 : w1.cell? ⟨w.heap.size, 1, none⟩ = some (.int .u64 a0) := by simp [go_sem, *]
  have d2 : w1.cell? ⟨w.heap.size, 2, none⟩ = some (.bool false) := by simp [go_sem, *]
  have e0 : w1.cell? ⟨w.heap.size + 1, 0, none⟩ = some (.int .u64 b1) := by simp [go_sem, *]
  have e1 : w1.cell? ⟨w.heap.size + 1, 1, none⟩ = some (.int .u64 b0) := by simp [go_sem, *]
  have e2 : w1.cell? ⟨w.heap.size + 1, 2, none⟩ = some (.bool true) := by simp [go_sem, *]
  have hbw : Below w.heap.size w w1 := by (repeat' (first | assumption | exact Below.refl _ _ | exact Below.size (by assumption) | (refine Below.setCell ?_ ?_ _) | (refine Below.alloc ?_ ?_ _) | (refine Below.drew ?_) | (refine below_drewN ?_ _) | (refine Below.trans ?_ (Below.mono ‹Below _ _ _› ?_)) | omega | (simp; done) | (simp; omega) | (simp at *; omega)))
  have hsw : w.heap.size + 2 < w1.heap.size := by first | assumption | omega
  have r0 : w1.cell? ⟨w.heap.size + 2, 0, none⟩ = some (.int .u64 0) := by simp [go_sem, *]
  have r1 : w1.cell? ⟨w.heap.size + 2, 1, none⟩ = some (.int .u64 0) := by simp [go_sem, *]
  have r2 : w1.cell? ⟨w.heap.size + 2, 2, none⟩ = some (.bool false) := by simp [go_sem, *]
  have f0 : w1.frozen? ⟨w.heap.size + 2, 0, none⟩ = false := by simp [go_sem, *]
  have f1 : w1.frozen? ⟨w.heap.size + 2, 1, none⟩ = false := by simp [go_sem, *]
  have f2 : w1.frozen? ⟨w.heap.size + 2, 2, none⟩ = false := by simp [go_sem, *]
  go_region_with (first | (go_at_call 100; (with_reducible refine (S2.out _).mono ?_); rintro e w2 ⟨rfl, hb2⟩; obtain ⟨hc2, hf2⟩ := bcell hb2; have hz2 := hb2.size; (try simp at hz2); (try simp only [heap_drew, World.heap_drewN] at hz2); (try simp only [heap_drew, World.heap_drewN] at hc2); (try simp only [heap_drew, World.heap_drewN] at hf2); (try have hs1 := Nat.lt_of_succ_le hz2); (try have hs2 := Nat.lt_of_succ_lt hs1); (try have y0 : w.heap.size < w2.heap.size := by omega); (try have y1 : w.heap.size + 1 < w2.heap.size := by omega); (try have y2 : w.heap.size + 2 < w2.heap.size := by omega)) | (go_at_call 80; (with_reducible refine (S3.out _).mono ?_); rintro e w3 ⟨rfl, hb3⟩; obtain ⟨hc3, hf3⟩ := bcell hb3; have hz3 := hb3.size; (try simp at hz3); (try simp only [heap_drew, World.heap_drewN] at hz3); (try simp only [heap_drew, World.heap_drewN] at hc3); (try simp only [heap_drew, World.heap_drewN] at hf3); (try have hs1 := Nat.lt_of_succ_le hz3); (try have hs2 := Nat.lt_of_succ_lt hs1); (try have y0 : w.heap.size < w3.heap.size := by omega); (try have y1 : w.heap.size + 1 < w3.heap.size := by omega); (try have y2 : w.heap.size + 2 < w3.heap.size := by omega)))
  all_goals (go_wp2_with fail)
  all_goals (refine bodyPost_ret (v := .agg #[.int .u64 c1, .int .u64 c0, .bool false]) (by simp [results, Tryz.results78, go_sem, *]) rfl ⟨rfl, ?_⟩)
  all_goals ((repeat' (first | assumption | exact Below.refl _ _ | exact Below.size (by assumption) | (refine Below.setCell ?_ ?_ _) | (refine Below.alloc ?_ ?_ _) | (refine Below.drew ?_) | (refine below_drewN ?_ _) | (refine Below.trans ?_ (Below.mono ‹Below _ _ _› ?_)) | omega | (simp; done) | (simp; omega) | (simp at *; omega))))
theorem rsum_any (p q : Nat) (hp : p < 340282366920938463463374607431768211456) (hq : q < 340282366920938463463374607431768211456) :
    ∃ (H L : Int) (f : Bool), (f = decide (p < q)) ∧ ((H = 0 ∧ L = 0) ∨ H ≠ 0 ∨ (H = 0 ∧ L ≠ 0)) ∧ ∀ w, Calls Tryz.prog 78 #[.agg #[.int .u64 (hi64 p), .int .u64 (lo64 p), .bool false], .agg #[.int .u64 (hi64 q), .int .u64 (lo64 q), .bool true]] w fun e w' => e = .returned (.agg #[.int .u64 H, .int .u64 L, .bool f]) ∧ Below w.heap.size w w' := by
  rcases Nat.lt_or_ge p q with h | h
  · exact ⟨_, _, true, (decide_eq_true h).symm, by omega, fun w => rsum_lt p q h hq w⟩
  · exact ⟨_, _, false, (decide_eq_false (by omega)).symm, by omega, fun w => rsum_ge p q h hp w⟩
set_option maxHeartbeats 4000000 in
theorem rorder_w (a1 a0 b1 b0 H L c : Int) (f : Bool) (hc : (f = true ∧ c = -1) ∨ (f = false ∧ H = 0 ∧ L = 0 ∧ c = 0) ∨ (f = false ∧ H ≠ 0 ∧ c = 1) ∨ (f = false ∧ H = 0 ∧ L ≠ 0 ∧ c = 1))
    (s1 : ∀ w, Calls Tryz.prog 79 #[.agg #[.int .u64 b1, .int .u64 b0, .bool false]] w fun e w' => e = .returned (.agg #[.int .u64 b1, .int .u64 b0, .bool true]) ∧ Below w.heap.size w w')
    (s2 : ∀ w, Calls Tryz.prog 78 #[.agg #[.int .u64 a1, .int .u64 a0, .bool false], .agg #[.int .u64 b1, .int .u64 b0, .bool true]] w fun e w' => e = .returned (.agg #[.int .u64 H, .int .u64 L, .bool f]) ∧ Below w.heap.size w w') (w : World) :
    Calls Tryz.prog 51 #[.agg #[.int .u64 a1, .int .u64 a0, .bool false], .agg #[.int .u64 b1, .int .u64 b0, .bool false]] w fun e w' => e = .returned (.int .i64 c) ∧ Below w.heap.size w w' := by
  have S1 := Lib.hid s1
  have S2 := Lib.hid s2
  clear s1 s2
  go_enter Tryz.func51, Tryz.ntmps51
  go_upto_region 1 with fail
  have k0 : Blk ((w.alloc (Obj.cells #[.int .u64 a1, .int .u64 a0, .bool false] 88)).alloc (Obj.cells #[.int .u64 b1, .int .u64 b0, .bool false] 88)) w.heap.size 88 #[.int .u64 a1, .int .u64 a0, .bool false] := (Blk.new _ _ _).alloc _
  have j0 : Blk ((w.alloc (Obj.cells #[.int .u64 a1, .int .u64 a0, .bool false] 88)).alloc (Obj.cells #[.int .u64 b1, .int .u64 b0, .bool false] 88)) (w.heap.size + 1) 88 #[.int .u64 b1, .int .u64 b0, .bool false] := by have h := Blk.new (w.alloc (Obj.cells #[.int .u64 a1, .int .u64 a0, .bool false] 88)) 88 #[.int .u64 b1, .int .u64 b0, .bool false]; simpa using h
  have hb0 : Below w.heap.size w ((w.alloc (Obj.cells #[.int .u64 a1, .int .u64 a0, .bool false] 88)).alloc (Obj.cells #[.int .u64 b1, .int .u64 b0, .bool false] 88)) := by (repeat' (first | assumption | exact Below.refl _ _ | exact Below.size (by assumption) | (refine Below.setCell ?_ ?_ _) | (refine Below.alloc ?_ ?_ _) | (refine Below.drew ?_) | (refine below_drewN ?_ _) | (refine Below.trans ?_ (Below.mono ‹Below _ _ _› ?_)) | omega | (simp; done) | (simp; omega) | (simp at *; omega)))
  generalize (w.alloc (Obj.cells #[.int .u64 a1, .int .u64 a0, .bool false] 88)).alloc (Obj.cells #[.int .u64 b1, .int .u64 b0, .bool false] 88) = w0 at k0 j0 hb0 ⊢
  have K0 : Hid (Blk w0 w.heap.size 88 #[.int .u64 a1, .int .u64 a0, .bool false]) := k0
  have J0 : Hid (Blk w0 (w.heap.size + 1) 88 #[.int .u64 b1, .int .u64 b0, .bool false]) := j0
  have KD : Hid (Blk w0.drew w.heap.size 88 #[.int .u64 a1, .int .u64 a0, .bool false]) := k0
  have JD : Hid (Blk w0.drew (w.heap.size + 1) 88 #[.int .u64 b1, .int .u64 b0, .bool false]) := j0
  have hbD : Below w.heap.size w w0.drew := hb0.drew
  clear k0 j0
  have x0 := K0.out.cell 0
  have x1 := K0.out.cell 1
  have x2 := K0.out.cell 2
  have x3 := J0.out.cell 0
  have x4 := J0.out.cell 1
  have x5 := J0.out.cell 2
  simp only [List.getElem?_toArray, List.getElem?_cons_succ, List.getElem?_cons_zero] at x0 x1 x2 x3 x4 x5
  have nxa := World.new_ne w0 ⟨w.heap.size, 0, none⟩ x0
  have nxb := World.new_ne w0 ⟨w.heap.size + 1, 0, none⟩ x3
  go_cut [5] from 6 to 9 (fun s wx => ∃ G : Nat, s = .pointer (some ⟨G, 0, none⟩) ∧ wx.cell? ⟨G, 0, none⟩ = some (.int .u64 H) ∧ wx.cell? ⟨G, 1, none⟩ = some (.int .u64 L) ∧ wx.cell? ⟨G, 2, none⟩ = some (.bool f) ∧ Below w.heap.size w wx)
  case first =>
    go_region_held3 (fun w' => w'.cell? ⟨w.heap.size, 0, none⟩ = some (.int .u64 a1) ∧ w'.cell? ⟨w.heap.size, 1, none⟩ = some (.int .u64 a0) ∧ w'.cell? ⟨w.heap.size, 2, none⟩ = some (.bool false) ∧ w'.cell? ⟨w.heap.size + 1, 0, none⟩ = some (.int .u64 b1) ∧ w'.cell? ⟨w.heap.size + 1, 1, none⟩ = some (.int .u64 b0) ∧ w'.cell? ⟨w.heap.size + 1, 2, none⟩ = some (.bool false)) (first
      | exact ⟨x0, x1, x2, x3, x4, x5⟩
      | exact ⟨y0, y1, y2, y3, y4, y5⟩
      | exact ⟨z0, z1, z2, z3, z4, z5⟩
      | go_keep) (first
      | ((go_at_call 79; (with_reducible refine (S1.out _).mono ?_); rintro e w1 ⟨rfl, hb1⟩; obtain ⟨hc1, hf1⟩ := bcell hb1; have hz1 := hb1.size; (try simp at hz1); (try simp only [heap_drew, World.heap_drewN] at hz1); (try simp only [heap_drew, World.heap_drewN] at hc1); (try simp only [heap_drew, World.heap_drewN] at hf1); (try have hs1 := Nat.lt_of_succ_le hz1); (try have hs2 := Nat.lt_of_succ_lt hs1); (try have y0 : w.heap.size < w1.heap.size := by omega); (try have y1 : w.heap.size + 1 < w1.heap.size := by omega); (try have y2 : w.heap.size + 2 < w1.heap.size := by omega))
         have HW1 : Hid (Below w.heap.size w w1) := (by first | exact below_step hbD hb1 | exact below_step (hbD.alloc hbD.size _) hb1)
         have K1 : Hid (Blk w1 w.heap.size 88 #[.int .u64 a1, .int .u64 a0, .bool false]) := (by first | exact KD.out.call hb1 | exact (KD.out.alloc _).call hb1)
         have J1 : Hid (Blk w1 (w.heap.size + 1) 88 #[.int .u64 b1, .int .u64 b0, .bool false]) := (by first | exact JD.out.call hb1 | exact (JD.out.alloc _).call hb1)
         have y0 := K1.out.cell 0
         have y1 := K1.out.cell 1
         have y2 := K1.out.cell 2
         have y3 := J1.out.cell 0
         have y4 := J1.out.cell 1
         have y5 := J1.out.cell 2
         simp only [List.getElem?_toArray, List.getElem?_cons_succ, List.getElem?_cons_zero] at y0 y1 y2 y3 y4 y5
         have nya := World.new_ne w1 ⟨w.heap.size, 0, none⟩ y0
         have nyb := World.new_ne w1 ⟨w.heap.size + 1, 0, none⟩ y3)
      | ((go_at_call 78; (with_reducible refine (S2.out _).mono ?_); rintro e w2 ⟨rfl, hb2⟩; obtain ⟨hc2, hf2⟩ := bcell hb2; have hz2 := hb2.size; (try simp at hz2); (try simp only [heap_drew, World.heap_drewN] at hz2); (try simp only [heap_drew, World.heap_drewN] at hc2); (try simp only [heap_drew, World.heap_drewN] at hf2); (try have hs1 := Nat.lt_of_succ_le hz2); (try have hs2 := Nat.lt_of_succ_lt hs1); (try have y0 : w.heap.size < w2.heap.size := by omega); (try have y1 : w.heap.size + 1 < w2.heap.size := by omega); (try have y2 : w.heap.size + 2 < w2.heap.size := by omega))
         have HW2 : Hid (Below w.heap.size w w2) := (by first | exact below_step HW1.out hb2 | exact below_step (HW1.out.alloc HW1.out.size _) hb2)
         have K2 : Hid (Blk w2 w.heap.size 88 #[.int .u64 a1, .int .u64 a0, .bool false]) := (by first | exact K1.out.call hb2 | exact (K1.out.alloc _).call hb2)
         have J2 : Hid (Blk w2 (w.heap.size + 1) 88 #[.int .u64 b1, .int .u64 b0, .bool false]) := (by first | exact J1.out.call hb2 | exact (J1.out.alloc _).call hb2)
         have z0 := K2.out.cell 0
         have z1 := K2.out.cell 1
         have z2 := K2.out.cell 2
         have z3 := J2.out.cell 0
         have z4 := J2.out.cell 1
         have z5 := J2.out.cell 2
         simp only [List.getElem?_toArray, List.getElem?_cons_succ, List.getElem?_cons_zero] at z0 z1 z2 z3 z4 z5
         have nza := World.new_ne w2 ⟨w.heap.size, 0, none⟩ z0
         have nzb := World.new_ne w2 ⟨w.heap.size + 1, 0, none⟩ z3))
    all_goals (go_wp2_with fail; go_meet)
    all_goals (have hw2 := HW2.out; have q0 := hbD.size; have q1 := HW1.out.size; have q2 := HW2.out.size; exact ⟨_, rfl, by simp [go_sem, *], by simp [go_sem, *], by simp [go_sem, *], by (repeat' (first | assumption | exact Below.refl _ _ | exact Below.size (by assumption) | (refine Below.setCell ?_ ?_ _) | (refine Below.alloc ?_ ?_ _) | (refine Below.drew ?_) | (refine below_drewN ?_ _) | (refine Below.trans ?_ (Below.mono ‹Below _ _ _› ?_)) | omega | (simp; done) | (simp; omega) | (simp at *; omega)))⟩)
  case rest =>
    obtain ⟨G, rfl, g0, g1, g2, hbx⟩ := hcut
    rcases hc with ⟨rfl, rfl⟩ | ⟨rfl, rfl, rfl, rfl⟩ | ⟨rfl, h, rfl⟩ | ⟨rfl, rfl, h, rfl⟩
    · go_wp2_with fail
      go_ret
      exact ⟨rfl, hbx⟩
    · go_wp2_with fail
      go_ret
      exact ⟨rfl, hbx⟩
    · have T : (H == 0) = false := by simp <;> omega
      go_wp2_with fail
      go_ret
      exact ⟨rfl, hbx⟩
    · have T : (L == 0) = false := by simp <;> omega
      go_wp2_with fail
      go_ret
      exact ⟨rfl, hbx⟩
/-- The order of two numbers, the second not 0. -/
theorem rorder (p q : Nat) (hp : p < 340282366920938463463374607431768211456) (hq : q < 340282366920938463463374607431768211456) (hq0 : q ≠ 0) :
    ∃ c : Int, (0 ≤ c ↔ q ≤ p) ∧ ∀ w, Calls Tryz.prog 51 #[.agg #[.int .u64 (hi64 p), .int .u64 (lo64 p), .bool false], .agg #[.int .u64 (hi64 q), .int .u64 (lo64 q), .bool false]] w fun e w' => e = .returned (.int .i64 c) ∧ Below w.heap.size w w' := by
  obtain ⟨H, L, f, hf, hz, hS⟩ := rsum_any p q hp hq
  have hO := fun w => ropp_f q hq w
  rw [nz_pos hq0] at hO
  cases f with
  | true =>
    have := of_decide_eq_true hf.symm
    exact ⟨-1, by omega, fun w => rorder_w _ _ _ _ H L (-1) true (.inl ⟨rfl, rfl⟩) hO hS w⟩
  | false =>
    have := of_decide_eq_false hf.symm
    rcases hz with ⟨h1, h2⟩ | h | ⟨h1, h2⟩
    · exact ⟨0, by omega, fun w => rorder_w _ _ _ _ H L 0 false (.inr (.inl ⟨rfl, h1, h2, rfl⟩)) hO hS w⟩
    · exact ⟨1, by omega, fun w => rorder_w _ _ _ _ H L 1 false (.inr (.inr (.inl ⟨rfl, h, rfl⟩))) hO hS w⟩
    · exact ⟨1, by omega, fun w => rorder_w _ _ _ _ H L 1 false (.inr (.inr (.inr ⟨rfl, h1, h2, rfl⟩))) hO hS w⟩
end Go.Proofs.YtpeelnjkppdkbaaGreat

/- Merged: Least, Most, Ends. -/
import Derived.Test.YtpeelnjkppdkbaaGreatIdx
import Derived.Test.YtpeelnjkppdkbaaGreatInv
import Derived.RegionTactic
import Derived.Test.YtpeelnjkppdkbaaGreatArea
namespace Go.Proofs.YtpeelnjkppdkbaaGreat
open Go.RowKit
set_option linter.unusedVariables false
set_option linter.unusedSimpArgs false

theorem cell_two {w : World} {o o' : Obj} {p : Addr} {v : Value} (h : w.cell? p = some v) (hp : p.block < w.heap.size) : ((w.alloc o).alloc o').drew.cell? p = some v := by
  have hb : Below w.heap.size w ((w.alloc o).alloc o') := ((Below.refl _ _).alloc (Nat.le_refl _) o).alloc (by simp) o'
  exact (hb.cell hp).trans h
theorem inv_bounds {T D U : Nat} (bT : T ≤ U) (bU : U ≤ 2251799813685248) (bD : D ≤ 2251799813685248) (hU : 0 < U) :
    T * D / 18446744073709551616 < U ∧ T * D / U ≤ D ∧ (T * D + U - 1) / U ≤ D := by
  have h1 : T * D ≤ U * D := Nat.mul_le_mul_right D bT
  have h2 : T * D ≤ U * 2251799813685248 := Nat.le_trans h1 (Nat.mul_le_mul_left U bD)
  refine ⟨?_, ?_, ?_⟩
  · rw [Nat.div_lt_iff_lt_mul (by omega)]; omega
  · exact Nat.div_le_of_le_mul h1
  · rw [← Nat.lt_succ_iff, Nat.div_lt_iff_lt_mul hU, Nat.succ_mul, Nat.mul_comm D U]; omega

set_option maxRecDepth 100000 in
set_option maxHeartbeats 2000000 in
theorem tleast_mid (b off n c p T D U : Nat) (X Y : Nat → Int) (y : Int) (w : World) (hv : TabOK n X Y) (ht : TabAt w b off n X Y) (hp : p + 1 < n) (hs : FirstAt (fun j => decide (y ≤ Y j)) n (p + 1))
    (eT : y - Y p = (T : Int)) (eD : X (p + 1) - X p = (D : Int)) (eU : Y (p + 1) - Y p = (U : Int)) (bT : T ≤ U) (hU : 0 < U) (v : Int) (hvv : v = X p + (((T * D + U - 1) / U : Nat) : Int)) :
    Calls Tryz.prog 16 #[.slice (some ⟨b, off, none⟩) n c, .int .i64 y] w fun e w' => e = .returned (.tuple #[.int .i64 v, .int .i64 0]) ∧ Below w.heap.size w w' := by
  have bp := in_of hv (by omega : p < n)
  have bp1 := in_of hv hp
  have hv2 := hv.2.1
  have S0 := Lib.hid fun w ht => tvalid b off n c X Y w hv.1 hv.2.1 ht
  have tv := tabB_true hv
  obtain ⟨k, hk⟩ : ∃ k, k = p + 1 := ⟨_, rfl⟩
  rw [← hk] at hs hp eD eU bp1
  obtain ⟨q1, q2, q3⟩ := inv_bounds (T := T) (D := D) (U := U) bT (by omega) (by omega) hU
  obtain ⟨lo, hlo⟩ : ∃ z, z = T * D / U := ⟨_, rfl⟩
  obtain ⟨hi, hhi⟩ : ∃ z, z = (T * D + U - 1) / U := ⟨_, rfl⟩
  rw [← hlo] at q2
  rw [← hhi] at q3 hvv
  have S1 := Lib.hid fun (w' : World) ht hy hg => findex_least b off n c k w.heap.size X Y y w' (by omega) ht hy hg hs (k : Int) (by rw [if_pos hp])
  have S2 := Lib.hid fun w => wscale T D U lo hi (by omega) (by omega) (by omega) q1 hlo hhi (by omega) (by omega) w
  have HT := Lib.hid ht
  have hb := ht.1
  have hpn : p < n := by omega
  have hx1 := (HT.out.2 p hpn).1
  have hy1 := (HT.out.2 p hpn).2
  have hx2 := (HT.out.2 k hp).1
  have hy2 := (HT.out.2 k hp).2
  have e1 : IntKind.i64.wrap ((k : Int) - 1) = (p : Int) := by rw [IntKind.wrap_i64]; omega
  have e2 : IntKind.i64.wrap (y - Y p) = (T : Int) := by rw [eT]; exact wrap_id (by omega) (by omega)
  have e3 : IntKind.i64.wrap (X k - X p) = (D : Int) := by rw [eD]; exact wrap_id (by omega) (by omega)
  have e4 : IntKind.i64.wrap (Y k - Y p) = (U : Int) := by rw [eU]; exact wrap_id (by omega) (by omega)
  have e5 : IntKind.i64.wrap (X p + (hi : Int)) = v := by rw [hvv]; exact wrap_id (by omega) (by omega)
  have t1 : ((k : Int) == -1) = false := by simp <;> omega
  have t2 : ((k : Int) == 0) = false := by simp <;> omega
  have t3 : ¬ k = 0 := by omega
  have k0 : (0 : Int) ≤ (p : Int) := by omega
  have k1 : (p : Int) < (n : Int) := by omega
  have k2 : (0 : Int) ≤ (k : Int) := by omega
  have k3 : (k : Int) < (n : Int) := by omega
  clear hs hv ht bp bp1 hv2 q1 q2 q3 hlo hhi hvv eT eD eU bT hU hk
  go_enter Tryz.func16, Tryz.ntmps16
  go_wp2_with (first | (go_at_call 19; (with_reducible refine (S0.out _ ?_).mono ?_); (focus (exact HT.out.below (by (repeat' (first | assumption | exact Below.refl _ _ | exact Below.size (by assumption) | (refine Below.setCell ?_ ?_ _) | (refine Below.alloc ?_ ?_ _) | (refine Below.drew ?_) | (refine below_drewN ?_ _) | (refine Below.trans ?_ (Below.mono ‹Below _ _ _› ?_)) | omega | (simp; done) | (simp; omega) | (simp at *; omega)))) hb)); rintro e w1 ⟨rfl, hb1⟩; obtain ⟨hc1, hf1⟩ := bcell hb1; have hz1 := hb1.size; (try simp at hz1); (try simp only [heap_drew, World.heap_drewN] at hz1); (try simp only [heap_drew, World.heap_drewN] at hc1); (try simp only [heap_drew, World.heap_drewN] at hf1); (try have hs1 := Nat.lt_of_succ_le hz1); (try have hs2 := Nat.lt_of_succ_lt hs1); (try have y0 : w.heap.size < w1.heap.size := by omega); (try have y1 : w.heap.size + 1 < w1.heap.size := by omega); (try have y2 : w.heap.size + 2 < w1.heap.size := by omega)) | (go_at_call 36; (with_reducible refine (S1.out _ ?_ ?_ ?_).mono ?_); (focus (exact HT.out.below (by (repeat' (first | assumption | exact Below.refl _ _ | exact Below.size (by assumption) | (refine Below.setCell ?_ ?_ _) | (refine Below.alloc ?_ ?_ _) | (refine Below.drew ?_) | (refine below_drewN ?_ _) | (refine Below.trans ?_ (Below.mono ‹Below _ _ _› ?_)) | omega | (simp; done) | (simp; omega) | (simp at *; omega)))) hb)); (focus (first | (simp [go_sem, *]; done) | (simp [*]; done))); (focus (first | assumption | omega)); rintro e w2 ⟨rfl, hb2⟩; obtain ⟨hc2, hf2⟩ := bcell hb2; have hz2 := hb2.size; have yb2 : b < w2.heap.size := (by have := hb1.size; simp at this; omega); have yw2 : w.heap.size < w2.heap.size := (by have := hb1.size; simp at this; omega)))
  have hbW : Below w.heap.size w w2 := by (repeat' (first | assumption | exact Below.refl _ _ | exact Below.size (by assumption) | (refine Below.setCell ?_ ?_ _) | (refine Below.alloc ?_ ?_ _) | (refine Below.drew ?_) | (refine below_drewN ?_ _) | (refine Below.trans ?_ (Below.mono ‹Below _ _ _› ?_)) | omega | (simp; done) | (simp; omega) | (simp at *; omega)))
  have HT2 := HT.out.below hbW hb
  have ax1 := (HT2.2 p hpn).1
  have ay1 := (HT2.2 p hpn).2
  have ax2 := (HT2.2 k hp).1
  have ay2 := (HT2.2 k hp).2
  have HBW := Lib.hid hbW
  have ayc : w2.cell? ⟨w.heap.size, 0, none⟩ = some (.int .i64 y) := by first | (simp [go_sem, *]; done) | (simp [*]; done)
  clear hc1 hc2 hf1 hf2 HT2 hx1 hy1 hx2 hy2 hbW
  go_cut [7, 8] from 27 to 35 (fun s t wx => ∃ g h : Nat, s = .pointer (some ⟨g, 0, none⟩) ∧ t = .pointer (some ⟨h, 0, none⟩) ∧ g < wx.heap.size ∧ h < wx.heap.size ∧ w.heap.size < wx.heap.size ∧ wx.cell? ⟨w.heap.size, 0, none⟩ = some (.int .i64 y) ∧ wx.cell? ⟨g, 0, none⟩ = some (.int .i64 (X p)) ∧ wx.cell? ⟨g, 1, none⟩ = some (.int .i64 (Y p)) ∧ wx.cell? ⟨h, 0, none⟩ = some (.int .i64 (X k)) ∧ wx.cell? ⟨h, 1, none⟩ = some (.int .i64 (Y k)) ∧ Below w.heap.size w wx)
  case first =>
    go_region
    all_goals (go_wp2_with fail; go_meet)
    all_goals (have hbW := HBW.out; exact ⟨_, _, rfl, rfl, by simp [heap_drew] <;> omega, by simp [heap_drew] <;> omega, by simp [heap_drew] <;> omega, cell_two ayc yw2, by simp, by simp, by simp, by simp, by (repeat' (first | assumption | exact Below.refl _ _ | exact Below.size (by assumption) | (refine Below.setCell ?_ ?_ _) | (refine Below.alloc ?_ ?_ _) | (refine Below.drew ?_) | (refine below_drewN ?_ _) | (refine Below.trans ?_ (Below.mono ‹Below _ _ _› ?_)) | omega | (simp; done) | (simp; omega) | (simp at *; omega)))⟩)
  case rest =>
    obtain ⟨g, h, rfl, rfl, hg, hh, hw, hyc, g0, g1, h0, h1, hbx⟩ := hcut
    go_wp2_with (first | (go_at_call 38; (with_reducible refine (S2.out _).mono ?_); rintro e w3 ⟨rfl, hb3⟩; obtain ⟨hc3, hf3⟩ := bcell hb3; have hz3 := hb3.size; (try simp at hz3); (try simp only [heap_drew, World.heap_drewN] at hz3); (try simp only [heap_drew, World.heap_drewN] at hc3); (try simp only [heap_drew, World.heap_drewN] at hf3); (try have hs1 := Nat.lt_of_succ_le hz3); (try have hs2 := Nat.lt_of_succ_lt hs1); (try have y0 : w.heap.size < w3.heap.size := by omega); (try have y1 : w.heap.size + 1 < w3.heap.size := by omega); (try have y2 : w.heap.size + 2 < w3.heap.size := by omega); (try have yg : g < w3.heap.size := by omega); (try have yh : h < w3.heap.size := by omega)))
    go_ret2
    refine ⟨rfl, ?_⟩
    (repeat' (first | assumption | exact Below.refl _ _ | exact Below.size (by assumption) | (refine Below.setCell ?_ ?_ _) | (refine Below.alloc ?_ ?_ _) | (refine Below.drew ?_) | (refine below_drewN ?_ _) | (refine Below.trans ?_ (Below.mono ‹Below _ _ _› ?_)) | omega | (simp; done) | (simp; omega) | (simp at *; omega)))
end Go.Proofs.YtpeelnjkppdkbaaGreat

namespace Go.Proofs.YtpeelnjkppdkbaaGreat
open Go.RowKit
set_option linter.unusedVariables false
set_option linter.unusedSimpArgs false

set_option maxRecDepth 100000 in
set_option maxHeartbeats 2000000 in
theorem tmost_mid (b off n c p T D U : Nat) (X Y : Nat → Int) (y : Int) (w : World) (hv : TabOK n X Y) (ht : TabAt w b off n X Y) (hp : p + 1 < n) (hs : FirstAt (fun j => decide (y < Y j)) n (p + 1))
    (eT : y - Y p = (T : Int)) (eD : X (p + 1) - X p = (D : Int)) (eU : Y (p + 1) - Y p = (U : Int)) (bT : T ≤ U) (hU : 0 < U) (v : Int) (hvv : v = X p + ((T * D / U : Nat) : Int)) :
    Calls Tryz.prog 17 #[.slice (some ⟨b, off, none⟩) n c, .int .i64 y] w fun e w' => e = .returned (.tuple #[.int .i64 v, .int .i64 0]) ∧ Below w.heap.size w w' := by
  have bp := in_of hv (by omega : p < n)
  have bp1 := in_of hv hp
  have hv2 := hv.2.1
  have S0 := Lib.hid fun w ht => tvalid b off n c X Y w hv.1 hv.2.1 ht
  have tv := tabB_true hv
  obtain ⟨k, hk⟩ : ∃ k, k = p + 1 := ⟨_, rfl⟩
  rw [← hk] at hs hp eD eU bp1
  obtain ⟨q1, q2, q3⟩ := inv_bounds (T := T) (D := D) (U := U) bT (by omega) (by omega) hU
  obtain ⟨lo, hlo⟩ : ∃ z, z = T * D / U := ⟨_, rfl⟩
  obtain ⟨hi, hhi⟩ : ∃ z, z = (T * D + U - 1) / U := ⟨_, rfl⟩
  rw [← hlo] at q2 hvv
  rw [← hhi] at q3
  have S1 := Lib.hid fun (w' : World) ht hy hg => findex_most b off n c k w.heap.size X Y y w' (by omega) ht hy hg hs (k : Int) (by rw [if_pos hp])
  have S2 := Lib.hid fun w => wscale T D U lo hi (by omega) (by omega) (by omega) q1 hlo hhi (by omega) (by omega) w
  have HT := Lib.hid ht
  have hb := ht.1
  have hpn : p < n := by omega
  have hx1 := (HT.out.2 p hpn).1
  have hy1 := (HT.out.2 p hpn).2
  have hx2 := (HT.out.2 k hp).1
  have hy2 := (HT.out.2 k hp).2
  have e1 : IntKind.i64.wrap ((k : Int) - 1) = (p : Int) := by rw [IntKind.wrap_i64]; omega
  have e2 : IntKind.i64.wrap (y - Y p) = (T : Int) := by rw [eT]; exact wrap_id (by omega) (by omega)
  have e3 : IntKind.i64.wrap (X k - X p) = (D : Int) := by rw [eD]; exact wrap_id (by omega) (by omega)
  have e4 : IntKind.i64.wrap (Y k - Y p) = (U : Int) := by rw [eU]; exact wrap_id (by omega) (by omega)
  have e5 : IntKind.i64.wrap (X p + (lo : Int)) = v := by rw [hvv]; exact wrap_id (by omega) (by omega)
  have t1 : ((k : Int) == -1) = false := by simp <;> omega
  have t2 : ((k : Int) == 0) = false := by simp <;> omega
  have t3 : ¬ k = 0 := by omega
  have k0 : (0 : Int) ≤ (p : Int) := by omega
  have k1 : (p : Int) < (n : Int) := by omega
  have k2 : (0 : Int) ≤ (k : Int) := by omega
  have k3 : (k : Int) < (n : Int) := by omega
  clear hs hv ht bp bp1 hv2 q1 q2 q3 hlo hhi hvv eT eD eU bT hU hk
  go_enter Tryz.func17, Tryz.ntmps17
  go_wp2_with (first | (go_at_call 19; (with_reducible refine (S0.out _ ?_).mono ?_); (focus (exact HT.out.below (by (repeat' (first | assumption | exact Below.refl _ _ | exact Below.size (by assumption) | (refine Below.setCell ?_ ?_ _) | (refine Below.alloc ?_ ?_ _) | (refine Below.drew ?_) | (refine below_drewN ?_ _) | (refine Below.trans ?_ (Below.mono ‹Below _ _ _› ?_)) | omega | (simp; done) | (simp; omega) | (simp at *; omega)))) hb)); rintro e w1 ⟨rfl, hb1⟩; obtain ⟨hc1, hf1⟩ := bcell hb1; have hz1 := hb1.size; (try simp at hz1); (try simp only [heap_drew, World.heap_drewN] at hz1); (try simp only [heap_drew, World.heap_drewN] at hc1); (try simp only [heap_drew, World.heap_drewN] at hf1); (try have hs1 := Nat.lt_of_succ_le hz1); (try have hs2 := Nat.lt_of_succ_lt hs1); (try have y0 : w.heap.size < w1.heap.size := by omega); (try have y1 : w.heap.size + 1 < w1.heap.size := by omega); (try have y2 : w.heap.size + 2 < w1.heap.size := by omega)) | (go_at_call 36; (with_reducible refine (S1.out _ ?_ ?_ ?_).mono ?_); (focus (exact HT.out.below (by (repeat' (first | assumption | exact Below.refl _ _ | exact Below.size (by assumption) | (refine Below.setCell ?_ ?_ _) | (refine Below.alloc ?_ ?_ _) | (refine Below.drew ?_) | (refine below_drewN ?_ _) | (refine Below.trans ?_ (Below.mono ‹Below _ _ _› ?_)) | omega | (simp; done) | (simp; omega) | (simp at *; omega)))) hb)); (focus (first | (simp [go_sem, *]; done) | (simp [*]; done))); (focus (first | assumption | omega)); rintro e w2 ⟨rfl, hb2⟩; obtain ⟨hc2, hf2⟩ := bcell hb2; have hz2 := hb2.size; have yb2 : b < w2.heap.size := (by have := hb1.size; simp at this; omega); have yw2 : w.heap.size < w2.heap.size := (by have := hb1.size; simp at this; omega)))
  have hbW : Below w.heap.size w w2 := by (repeat' (first | assumption | exact Below.refl _ _ | exact Below.size (by assumption) | (refine Below.setCell ?_ ?_ _) | (refine Below.alloc ?_ ?_ _) | (refine Below.drew ?_) | (refine below_drewN ?_ _) | (refine Below.trans ?_ (Below.mono ‹Below _ _ _› ?_)) | omega | (simp; done) | (simp; omega) | (simp at *; omega)))
  have HT2 := HT.out.below hbW hb
  have ax1 := (HT2.2 p hpn).1
  have ay1 := (HT2.2 p hpn).2
  have ax2 := (HT2.2 k hp).1
  have ay2 := (HT2.2 k hp).2
  have HBW := Lib.hid hbW
  have ayc : w2.cell? ⟨w.heap.size, 0, none⟩ = some (.int .i64 y) := by first | (simp [go_sem, *]; done) | (simp [*]; done)
  clear hc1 hc2 hf1 hf2 HT2 hx1 hy1 hx2 hy2 hbW
  go_cut [7, 8] from 30 to 38 (fun s t wx => ∃ g h : Nat, s = .pointer (some ⟨g, 0, none⟩) ∧ t = .pointer (some ⟨h, 0, none⟩) ∧ g < wx.heap.size ∧ h < wx.heap.size ∧ w.heap.size < wx.heap.size ∧ wx.cell? ⟨w.heap.size, 0, none⟩ = some (.int .i64 y) ∧ wx.cell? ⟨g, 0, none⟩ = some (.int .i64 (X p)) ∧ wx.cell? ⟨g, 1, none⟩ = some (.int .i64 (Y p)) ∧ wx.cell? ⟨h, 0, none⟩ = some (.int .i64 (X k)) ∧ wx.cell? ⟨h, 1, none⟩ = some (.int .i64 (Y k)) ∧ Below w.heap.size w wx)
  case first =>
    go_region
    all_goals (go_wp2_with fail; go_meet)
    all_goals (have hbW := HBW.out; exact ⟨_, _, rfl, rfl, by simp [heap_drew] <;> omega, by simp [heap_drew] <;> omega, by simp [heap_drew] <;> omega, cell_two ayc yw2, by simp, by simp, by simp, by simp, by (repeat' (first | assumption | exact Below.refl _ _ | exact Below.size (by assumption) | (refine Below.setCell ?_ ?_ _) | (refine Below.alloc ?_ ?_ _) | (refine Below.drew ?_) | (refine below_drewN ?_ _) | (refine Below.trans ?_ (Below.mono ‹Below _ _ _› ?_)) | omega | (simp; done) | (simp; omega) | (simp at *; omega)))⟩)
  case rest =>
    obtain ⟨g, h, rfl, rfl, hg, hh, hw, hyc, g0, g1, h0, h1, hbx⟩ := hcut
    go_wp2_with (first | (go_at_call 38; (with_reducible refine (S2.out _).mono ?_); rintro e w3 ⟨rfl, hb3⟩; obtain ⟨hc3, hf3⟩ := bcell hb3; have hz3 := hb3.size; (try simp at hz3); (try simp only [heap_drew, World.heap_drewN] at hz3); (try simp only [heap_drew, World.heap_drewN] at hc3); (try simp only [heap_drew, World.heap_drewN] at hf3); (try have hs1 := Nat.lt_of_succ_le hz3); (try have hs2 := Nat.lt_of_succ_lt hs1); (try have y0 : w.heap.size < w3.heap.size := by omega); (try have y1 : w.heap.size + 1 < w3.heap.size := by omega); (try have y2 : w.heap.size + 2 < w3.heap.size := by omega); (try have yg : g < w3.heap.size := by omega); (try have yh : h < w3.heap.size := by omega)))
    go_ret2
    refine ⟨rfl, ?_⟩
    (repeat' (first | assumption | exact Below.refl _ _ | exact Below.size (by assumption) | (refine Below.setCell ?_ ?_ _) | (refine Below.alloc ?_ ?_ _) | (refine Below.drew ?_) | (refine below_drewN ?_ _) | (refine Below.trans ?_ (Below.mono ‹Below _ _ _› ?_)) | omega | (simp; done) | (simp; omega) | (simp at *; omega)))
end Go.Proofs.YtpeelnjkppdkbaaGreat

namespace Go.Proofs.YtpeelnjkppdkbaaGreat
open Go.RowKit
set_option linter.unusedVariables false
set_option linter.unusedSimpArgs false

set_option maxRecDepth 100000 in
set_option maxHeartbeats 2000000 in
theorem tleast_none (b off n c : Nat) (X Y : Nat → Int) (y : Int) (w : World) (hv : TabOK n X Y) (ht : TabAt w b off n X Y) (hs : FirstAt (fun j => decide (y ≤ Y j)) n n) :
    Calls Tryz.prog 16 #[.slice (some ⟨b, off, none⟩) n c, .int .i64 y] w fun e w' => e = .returned (.tuple #[.int .i64 0, .int .i64 12]) ∧ Below w.heap.size w w' := by
  have hv1 := hv.1
  have hv2 := hv.2.1
  have S0 := Lib.hid fun w ht => tvalid b off n c X Y w hv.1 hv.2.1 ht
  have tv := tabB_true hv
  have S1 := Lib.hid fun (w' : World) ht hy hg => findex_least b off n c n w.heap.size X Y y w' (by omega) ht hy hg hs (-1 : Int) (by first | rw [if_neg (by omega)] | (rw [if_pos (by omega)]; rfl))
  have HT := Lib.hid ht
  have hb := ht.1
  clear hs hv ht hv2
  go_enter Tryz.func16, Tryz.ntmps16
  go_wp2_with (first | (go_at_call 19; (with_reducible refine (S0.out _ ?_).mono ?_); (focus (exact HT.out.below (by (repeat' (first | assumption | exact Below.refl _ _ | exact Below.size (by assumption) | (refine Below.setCell ?_ ?_ _) | (refine Below.alloc ?_ ?_ _) | (refine Below.drew ?_) | (refine below_drewN ?_ _) | (refine Below.trans ?_ (Below.mono ‹Below _ _ _› ?_)) | omega | (simp; done) | (simp; omega) | (simp at *; omega)))) hb)); rintro e w1 ⟨rfl, hb1⟩; obtain ⟨hc1, hf1⟩ := bcell hb1; have hz1 := hb1.size; (try simp at hz1); (try simp only [heap_drew, World.heap_drewN] at hz1); (try simp only [heap_drew, World.heap_drewN] at hc1); (try simp only [heap_drew, World.heap_drewN] at hf1); (try have hs1 := Nat.lt_of_succ_le hz1); (try have hs2 := Nat.lt_of_succ_lt hs1); (try have y0 : w.heap.size < w1.heap.size := by omega); (try have y1 : w.heap.size + 1 < w1.heap.size := by omega); (try have y2 : w.heap.size + 2 < w1.heap.size := by omega)) | (go_at_call 36; (with_reducible refine (S1.out _ ?_ ?_ ?_).mono ?_); (focus (exact HT.out.below (by (repeat' (first | assumption | exact Below.refl _ _ | exact Below.size (by assumption) | (refine Below.setCell ?_ ?_ _) | (refine Below.alloc ?_ ?_ _) | (refine Below.drew ?_) | (refine below_drewN ?_ _) | (refine Below.trans ?_ (Below.mono ‹Below _ _ _› ?_)) | omega | (simp; done) | (simp; omega) | (simp at *; omega)))) hb)); (focus (first | (simp [go_sem, *]; done) | (simp [*]; done))); (focus (first | assumption | omega)); rintro e w2 ⟨rfl, hb2⟩; obtain ⟨hc2, hf2⟩ := bcell hb2; have hz2 := hb2.size; have yb2 : b < w2.heap.size := (by have := hb1.size; simp at this; omega); have yw2 : w.heap.size < w2.heap.size := (by have := hb1.size; simp at this; omega)))
  go_ret2
  refine ⟨rfl, ?_⟩
  (repeat' (first | assumption | exact Below.refl _ _ | exact Below.size (by assumption) | (refine Below.setCell ?_ ?_ _) | (refine Below.alloc ?_ ?_ _) | (refine Below.drew ?_) | (refine below_drewN ?_ _) | (refine Below.trans ?_ (Below.mono ‹Below _ _ _› ?_)) | omega | (simp; done) | (simp; omega) | (simp at *; omega)))
set_option maxRecDepth 100000 in
set_option maxHeartbeats 2000000 in
theorem tleast_first (b off n c : Nat) (X Y : Nat → Int) (y : Int) (w : World) (hv : TabOK n X Y) (ht : TabAt w b off n X Y) (hs : FirstAt (fun j => decide (y ≤ Y j)) n 0) :
    Calls Tryz.prog 16 #[.slice (some ⟨b, off, none⟩) n c, .int .i64 y] w fun e w' => e = .returned (.tuple #[.int .i64 (X 0), .int .i64 0]) ∧ Below w.heap.size w w' := by
  have hv1 := hv.1
  have hv2 := hv.2.1
  have S0 := Lib.hid fun w ht => tvalid b off n c X Y w hv.1 hv.2.1 ht
  have tv := tabB_true hv
  have S1 := Lib.hid fun (w' : World) ht hy hg => findex_least b off n c 0 w.heap.size X Y y w' (by omega) ht hy hg hs (0 : Int) (by first | rw [if_neg (by omega)] | (rw [if_pos (by omega)]; rfl))
  have HT := Lib.hid ht
  have hb := ht.1
  have k1 : (0 : Int) < (n : Int) := by omega
  clear hs hv ht hv2
  go_enter Tryz.func16, Tryz.ntmps16
  go_upto_region 5 with (first | (go_at_call 19; (with_reducible refine (S0.out _ ?_).mono ?_); (focus (exact HT.out.below (by (repeat' (first | assumption | exact Below.refl _ _ | exact Below.size (by assumption) | (refine Below.setCell ?_ ?_ _) | (refine Below.alloc ?_ ?_ _) | (refine Below.drew ?_) | (refine below_drewN ?_ _) | (refine Below.trans ?_ (Below.mono ‹Below _ _ _› ?_)) | omega | (simp; done) | (simp; omega) | (simp at *; omega)))) hb)); rintro e w1 ⟨rfl, hb1⟩; obtain ⟨hc1, hf1⟩ := bcell hb1; have hz1 := hb1.size; (try simp at hz1); (try simp only [heap_drew, World.heap_drewN] at hz1); (try simp only [heap_drew, World.heap_drewN] at hc1); (try simp only [heap_drew, World.heap_drewN] at hf1); (try have hs1 := Nat.lt_of_succ_le hz1); (try have hs2 := Nat.lt_of_succ_lt hs1); (try have y0 : w.heap.size < w1.heap.size := by omega); (try have y1 : w.heap.size + 1 < w1.heap.size := by omega); (try have y2 : w.heap.size + 2 < w1.heap.size := by omega)) | (go_at_call 36; (with_reducible refine (S1.out _ ?_ ?_ ?_).mono ?_); (focus (exact HT.out.below (by (repeat' (first | assumption | exact Below.refl _ _ | exact Below.size (by assumption) | (refine Below.setCell ?_ ?_ _) | (refine Below.alloc ?_ ?_ _) | (refine Below.drew ?_) | (refine below_drewN ?_ _) | (refine Below.trans ?_ (Below.mono ‹Below _ _ _› ?_)) | omega | (simp; done) | (simp; omega) | (simp at *; omega)))) hb)); (focus (first | (simp [go_sem, *]; done) | (simp [*]; done))); (focus (first | assumption | omega)); rintro e w2 ⟨rfl, hb2⟩; obtain ⟨hc2, hf2⟩ := bcell hb2; have hz2 := hb2.size; have yb2 : b < w2.heap.size := (by have := hb1.size; simp at this; omega); have yw2 : w.heap.size < w2.heap.size := (by have := hb1.size; simp at this; omega)))
  have hbW : Below w.heap.size w w2 := by (repeat' (first | assumption | exact Below.refl _ _ | exact Below.size (by assumption) | (refine Below.setCell ?_ ?_ _) | (refine Below.alloc ?_ ?_ _) | (refine Below.drew ?_) | (refine below_drewN ?_ _) | (refine Below.trans ?_ (Below.mono ‹Below _ _ _› ?_)) | omega | (simp; done) | (simp; omega) | (simp at *; omega)))
  have HT2 := HT.out.below hbW hb
  have ax := (HT2.2 0 (by omega)).1
  have ay := (HT2.2 0 (by omega)).2
  try simp at ax ay
  go_wp2_with fail
  go_ret2
  refine ⟨rfl, ?_⟩
  (repeat' (first | assumption | exact Below.refl _ _ | exact Below.size (by assumption) | (refine Below.setCell ?_ ?_ _) | (refine Below.alloc ?_ ?_ _) | (refine Below.drew ?_) | (refine below_drewN ?_ _) | (refine Below.trans ?_ (Below.mono ‹Below _ _ _› ?_)) | omega | (simp; done) | (simp; omega) | (simp at *; omega)))
theorem tleast_bad (A : Option Addr) (n c : Nat) (X Y : Nat → Int) (y : Int) (w : World) (hv : ¬ TabOK n X Y) (ht : TabIn w A n X Y) :
    Calls Tryz.prog 16 #[.slice A n c, .int .i64 y] w fun e w' => e = .returned (.tuple #[.int .i64 0, .int .i64 1]) ∧ Below w.heap.size w w' := by
  have S0 := Lib.hid fun w ht => tvalid_any A n c X Y w ht
  have tv := tabB_false hv
  have HT := Lib.hid ht
  clear hv ht
  go_enter Tryz.func16, Tryz.ntmps16
  go_wp2_with (first | (go_at_call 19; (with_reducible refine (S0.out _ ?_).mono ?_); (focus (exact HT.out.below (Nat.le_refl _) (by (repeat' (first | assumption | exact Below.refl _ _ | exact Below.size (by assumption) | (refine Below.setCell ?_ ?_ _) | (refine Below.alloc ?_ ?_ _) | (refine Below.drew ?_) | (refine below_drewN ?_ _) | (refine Below.trans ?_ (Below.mono ‹Below _ _ _› ?_)) | omega | (simp; done) | (simp; omega) | (simp at *; omega)))))); rintro e w1 ⟨rfl, hb1⟩; obtain ⟨hc1, hf1⟩ := bcell hb1; have hz1 := hb1.size; (try simp at hz1); (try simp only [heap_drew, World.heap_drewN] at hz1); (try simp only [heap_drew, World.heap_drewN] at hc1); (try simp only [heap_drew, World.heap_drewN] at hf1); (try have hs1 := Nat.lt_of_succ_le hz1); (try have hs2 := Nat.lt_of_succ_lt hs1); (try have y0 : w.heap.size < w1.heap.size := by omega); (try have y1 : w.heap.size + 1 < w1.heap.size := by omega); (try have y2 : w.heap.size + 2 < w1.heap.size := by omega)))
  go_ret2
  refine ⟨rfl, ?_⟩
  (repeat' (first | assumption | exact Below.refl _ _ | exact Below.size (by assumption) | (refine Below.setCell ?_ ?_ _) | (refine Below.alloc ?_ ?_ _) | (refine Below.drew ?_) | (refine below_drewN ?_ _) | (refine Below.trans ?_ (Below.mono ‹Below _ _ _› ?_)) | omega | (simp; done) | (simp; omega) | (simp at *; omega)))
set_option maxRecDepth 100000 in
set_option maxHeartbeats 2000000 in
theorem tmost_none (b off n c m : Nat) (X Y : Nat → Int) (y : Int) (w : World) (hv : TabOK n X Y) (ht : TabAt w b off n X Y) (hs : FirstAt (fun j => decide (y < Y j)) n n) (hm : n = m + 1) :
    Calls Tryz.prog 17 #[.slice (some ⟨b, off, none⟩) n c, .int .i64 y] w fun e w' => e = .returned (.tuple #[.int .i64 (X m), .int .i64 0]) ∧ Below w.heap.size w w' := by
  have hv1 := hv.1
  have hv2 := hv.2.1
  have S0 := Lib.hid fun w ht => tvalid b off n c X Y w hv.1 hv.2.1 ht
  have tv := tabB_true hv
  have S1 := Lib.hid fun (w' : World) ht hy hg => findex_most b off n c n w.heap.size X Y y w' (by omega) ht hy hg hs (-1 : Int) (by first | rw [if_neg (by omega)] | (rw [if_pos (by omega)]; rfl))
  have HT := Lib.hid ht
  have hb := ht.1
  have e1 : IntKind.i64.wrap ((n : Int) - 1) = (m : Int) := by rw [IntKind.wrap_i64]; omega
  have k0 : (0 : Int) ≤ (m : Int) := by omega
  have k1 : (m : Int) < (n : Int) := by omega
  have hmn : m < n := by omega
  clear hs hv ht hv2 hm
  go_enter Tryz.func17, Tryz.ntmps17
  go_upto_region 6 with (first | (go_at_call 19; (with_reducible refine (S0.out _ ?_).mono ?_); (focus (exact HT.out.below (by (repeat' (first | assumption | exact Below.refl _ _ | exact Below.size (by assumption) | (refine Below.setCell ?_ ?_ _) | (refine Below.alloc ?_ ?_ _) | (refine Below.drew ?_) | (refine below_drewN ?_ _) | (refine Below.trans ?_ (Below.mono ‹Below _ _ _› ?_)) | omega | (simp; done) | (simp; omega) | (simp at *; omega)))) hb)); rintro e w1 ⟨rfl, hb1⟩; obtain ⟨hc1, hf1⟩ := bcell hb1; have hz1 := hb1.size; (try simp at hz1); (try simp only [heap_drew, World.heap_drewN] at hz1); (try simp only [heap_drew, World.heap_drewN] at hc1); (try simp only [heap_drew, World.heap_drewN] at hf1); (try have hs1 := Nat.lt_of_succ_le hz1); (try have hs2 := Nat.lt_of_succ_lt hs1); (try have y0 : w.heap.size < w1.heap.size := by omega); (try have y1 : w.heap.size + 1 < w1.heap.size := by omega); (try have y2 : w.heap.size + 2 < w1.heap.size := by omega)) | (go_at_call 36; (with_reducible refine (S1.out _ ?_ ?_ ?_).mono ?_); (focus (exact HT.out.below (by (repeat' (first | assumption | exact Below.refl _ _ | exact Below.size (by assumption) | (refine Below.setCell ?_ ?_ _) | (refine Below.alloc ?_ ?_ _) | (refine Below.drew ?_) | (refine below_drewN ?_ _) | (refine Below.trans ?_ (Below.mono ‹Below _ _ _› ?_)) | omega | (simp; done) | (simp; omega) | (simp at *; omega)))) hb)); (focus (first | (simp [go_sem, *]; done) | (simp [*]; done))); (focus (first | assumption | omega)); rintro e w2 ⟨rfl, hb2⟩; obtain ⟨hc2, hf2⟩ := bcell hb2; have hz2 := hb2.size; have yb2 : b < w2.heap.size := (by have := hb1.size; simp at this; omega); have yw2 : w.heap.size < w2.heap.size := (by have := hb1.size; simp at this; omega)))
  have hbW : Below w.heap.size w w2 := by (repeat' (first | assumption | exact Below.refl _ _ | exact Below.size (by assumption) | (refine Below.setCell ?_ ?_ _) | (refine Below.alloc ?_ ?_ _) | (refine Below.drew ?_) | (refine below_drewN ?_ _) | (refine Below.trans ?_ (Below.mono ‹Below _ _ _› ?_)) | omega | (simp; done) | (simp; omega) | (simp at *; omega)))
  have HT2 := HT.out.below hbW hb
  have ax := (HT2.2 m hmn).1
  have ay := (HT2.2 m hmn).2
  try simp at ax ay
  go_wp2_with fail
  go_ret2
  refine ⟨rfl, ?_⟩
  (repeat' (first | assumption | exact Below.refl _ _ | exact Below.size (by assumption) | (refine Below.setCell ?_ ?_ _) | (refine Below.alloc ?_ ?_ _) | (refine Below.drew ?_) | (refine below_drewN ?_ _) | (refine Below.trans ?_ (Below.mono ‹Below _ _ _› ?_)) | omega | (simp; done) | (simp; omega) | (simp at *; omega)))
set_option maxRecDepth 100000 in
set_option maxHeartbeats 2000000 in
theorem tmost_first (b off n c : Nat) (X Y : Nat → Int) (y : Int) (w : World) (hv : TabOK n X Y) (ht : TabAt w b off n X Y) (hs : FirstAt (fun j => decide (y < Y j)) n 0) :
    Calls Tryz.prog 17 #[.slice (some ⟨b, off, none⟩) n c, .int .i64 y] w fun e w' => e = .returned (.tuple #[.int .i64 0, .int .i64 12]) ∧ Below w.heap.size w w' := by
  have hv1 := hv.1
  have hv2 := hv.2.1
  have S0 := Lib.hid fun w ht => tvalid b off n c X Y w hv.1 hv.2.1 ht
  have tv := tabB_true hv
  have S1 := Lib.hid fun (w' : World) ht hy hg => findex_most b off n c 0 w.heap.size X Y y w' (by omega) ht hy hg hs (0 : Int) (by first | rw [if_neg (by omega)] | (rw [if_pos (by omega)]; rfl))
  have HT := Lib.hid ht
  have hb := ht.1
  clear hs hv ht hv2
  go_enter Tryz.func17, Tryz.ntmps17
  go_wp2_with (first | (go_at_call 19; (with_reducible refine (S0.out _ ?_).mono ?_); (focus (exact HT.out.below (by (repeat' (first | assumption | exact Below.refl _ _ | exact Below.size (by assumption) | (refine Below.setCell ?_ ?_ _) | (refine Below.alloc ?_ ?_ _) | (refine Below.drew ?_) | (refine below_drewN ?_ _) | (refine Below.trans ?_ (Below.mono ‹Below _ _ _› ?_)) | omega | (simp; done) | (simp; omega) | (simp at *; omega)))) hb)); rintro e w1 ⟨rfl, hb1⟩; obtain ⟨hc1, hf1⟩ := bcell hb1; have hz1 := hb1.size; (try simp at hz1); (try simp only [heap_drew, World.heap_drewN] at hz1); (try simp only [heap_drew, World.heap_drewN] at hc1); (try simp only [heap_drew, World.heap_drewN] at hf1); (try have hs1 := Nat.lt_of_succ_le hz1); (try have hs2 := Nat.lt_of_succ_lt hs1); (try have y0 : w.heap.size < w1.heap.size := by omega); (try have y1 : w.heap.size + 1 < w1.heap.size := by omega); (try have y2 : w.heap.size + 2 < w1.heap.size := by omega)) | (go_at_call 36; (with_reducible refine (S1.out _ ?_ ?_ ?_).mono ?_); (focus (exact HT.out.below (by (repeat' (first | assumption | exact Below.refl _ _ | exact Below.size (by assumption) | (refine Below.setCell ?_ ?_ _) | (refine Below.alloc ?_ ?_ _) | (refine Below.drew ?_) | (refine below_drewN ?_ _) | (refine Below.trans ?_ (Below.mono ‹Below _ _ _› ?_)) | omega | (simp; done) | (simp; omega) | (simp at *; omega)))) hb)); (focus (first | (simp [go_sem, *]; done) | (simp [*]; done))); (focus (first | assumption | omega)); rintro e w2 ⟨rfl, hb2⟩; obtain ⟨hc2, hf2⟩ := bcell hb2; have hz2 := hb2.size; have yb2 : b < w2.heap.size := (by have := hb1.size; simp at this; omega); have yw2 : w.heap.size < w2.heap.size := (by have := hb1.size; simp at this; omega)))
  go_ret2
  refine ⟨rfl, ?_⟩
  (repeat' (first | assumption | exact Below.refl _ _ | exact Below.size (by assumption) | (refine Below.setCell ?_ ?_ _) | (refine Below.alloc ?_ ?_ _) | (refine Below.drew ?_) | (refine below_drewN ?_ _) | (refine Below.trans ?_ (Below.mono ‹Below _ _ _› ?_)) | omega | (simp; done) | (simp; omega) | (simp at *; omega)))
theorem tmost_bad (A : Option Addr) (n c : Nat) (X Y : Nat → Int) (y : Int) (w : World) (hv : ¬ TabOK n X Y) (ht : TabIn w A n X Y) :
    Calls Tryz.prog 17 #[.slice A n c, .int .i64 y] w fun e w' => e = .returned (.tuple #[.int .i64 0, .int .i64 1]) ∧ Below w.heap.size w w' := by
  have S0 := Lib.hid fun w ht => tvalid_any A n c X Y w ht
  have tv := tabB_false hv
  have HT := Lib.hid ht
  clear hv ht
  go_enter Tryz.func17, Tryz.ntmps17
  go_wp2_with (first | (go_at_call 19; (with_reducible refine (S0.out _ ?_).mono ?_); (focus (exact HT.out.below (Nat.le_refl _) (by (repeat' (first | assumption | exact Below.refl _ _ | exact Below.size (by assumption) | (refine Below.setCell ?_ ?_ _) | (refine Below.alloc ?_ ?_ _) | (refine Below.drew ?_) | (refine below_drewN ?_ _) | (refine Below.trans ?_ (Below.mono ‹Below _ _ _› ?_)) | omega | (simp; done) | (simp; omega) | (simp at *; omega)))))); rintro e w1 ⟨rfl, hb1⟩; obtain ⟨hc1, hf1⟩ := bcell hb1; have hz1 := hb1.size; (try simp at hz1); (try simp only [heap_drew, World.heap_drewN] at hz1); (try simp only [heap_drew, World.heap_drewN] at hc1); (try simp only [heap_drew, World.heap_drewN] at hf1); (try have hs1 := Nat.lt_of_succ_le hz1); (try have hs2 := Nat.lt_of_succ_lt hs1); (try have y0 : w.heap.size < w1.heap.size := by omega); (try have y1 : w.heap.size + 1 < w1.heap.size := by omega); (try have y2 : w.heap.size + 2 < w1.heap.size := by omega)))
  go_ret2
  refine ⟨rfl, ?_⟩
  (repeat' (first | assumption | exact Below.refl _ _ | exact Below.size (by assumption) | (refine Below.setCell ?_ ?_ _) | (refine Below.alloc ?_ ?_ _) | (refine Below.drew ?_) | (refine below_drewN ?_ _) | (refine Below.trans ?_ (Below.mono ‹Below _ _ _› ?_)) | omega | (simp; done) | (simp; omega) | (simp at *; omega)))
end Go.Proofs.YtpeelnjkppdkbaaGreat

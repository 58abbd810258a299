/- Integers of 120 bits: products, quotients, sums, at values that are not negative. -/
import Derived.Test.YtfgakaielfekoaaGreatDoorBase
import Derived.Test.YtfgakaielfekoaaGreatDoorDiv
import Derived.Laws.Rows
import Derived.Laws.NewBlocks
import Derived.Shelf.Spec.BitsCarry
namespace Go.Proofs.YtfgakaielfekoaaGreatDoor
open Go.RowKit
set_option linter.unusedVariables false
set_option linter.unusedSimpArgs false

theorem wsigned_pos (hi lo : Int) (w : World) : Calls Tryz.prog 217 #[.int .u64 hi, .int .u64 lo, .bool false] w fun e w' => e = .returned (.agg #[.int .u64 hi, .int .u64 lo, .bool false]) ∧ Below w.heap.size w w' := by
  go_enter Tryz.func217, Tryz.ntmps217
  go_wp2
  refine bodyPost_ret (v := .agg #[.int .u64 hi, .int .u64 lo, .bool false]) (by simp [results, Tryz.results217, go_sem]) rfl ⟨rfl, ?_⟩
  (repeat' (first | assumption | exact Below.refl _ _ | exact Below.size (by assumption) | (refine Below.setCell ?_ ?_ _) | (refine Below.alloc ?_ ?_ _) | (refine Below.drew ?_) | (refine below_drewN ?_ _) | (refine Below.trans ?_ (Below.mono ‹Below _ _ _› ?_)) | omega | (simp; done) | (simp; omega) | (simp at *; omega)))
theorem wtimes (a b : Nat) (ha : a < 9223372036854775808) (hb : b < 9223372036854775808) (w : World) : Calls Tryz.prog 195 #[.int .i64 (a : Int), .int .i64 (b : Int)] w fun e w' => e = .returned (.agg #[.int .u64 (hi64 (a * b)), .int .u64 (lo64 (a * b)), .bool false]) ∧ Below w.heap.size w w' := by
  have ea : (a : Int).natAbs = a := rfl
  have eb : (b : Int).natAbs = b := rfl
  have na : decide ((a : Int) < 0) = false := by simp
  have nb : decide ((b : Int) < 0) = false := by simp
  go_enter Tryz.func195, Tryz.ntmps195
  go_wp2_with (first | (go_at_call 216; (with_reducible refine (wsize _ (by omega) (by omega) _).mono ?_); rintro e w' ⟨rfl, rfl⟩) | (go_at_call 142; (with_reducible refine (mul64 a b (by omega) (by omega) _).mono ?_); rintro e w' ⟨rfl, rfl⟩) | (go_at_call 217; (with_reducible refine (wsigned_pos _ _ _).mono ?_); rintro e w1 ⟨rfl, hb1⟩; obtain ⟨hc1, hf1⟩ := bcell hb1; have hz1 := hb1.size; (try simp at hz1); (try simp only [heap_drew, World.heap_drewN] at hz1); (try simp only [heap_drew, World.heap_drewN] at hc1); (try simp only [heap_drew, World.heap_drewN] at hf1); (try have hs1 := Nat.lt_of_succ_le hz1); (try have hs2 := Nat.lt_of_succ_lt hs1); (try have y0 : w.heap.size < w1.heap.size := by omega); (try have y1 : w.heap.size + 1 < w1.heap.size := by omega); (try have y2 : w.heap.size + 2 < w1.heap.size := by omega)))
  refine bodyPost_ret (v := .agg #[.int .u64 (hi64 (a * b)), .int .u64 (lo64 (a * b)), .bool false]) (by simp [results, Tryz.results195, go_sem, *]) rfl ⟨rfl, ?_⟩
  (repeat' (first | assumption | exact Below.refl _ _ | exact Below.size (by assumption) | (refine Below.setCell ?_ ?_ _) | (refine Below.alloc ?_ ?_ _) | (refine Below.drew ?_) | (refine below_drewN ?_ _) | (refine Below.trans ?_ (Below.mono ‹Below _ _ _› ?_)) | omega | (simp; done) | (simp; omega) | (simp at *; omega)))

theorem div64 (z y q r : Nat) (hz : z / 18446744073709551616 < y) (hy : y < 18446744073709551616) (hq : q = z / y) (hr : r = z % y) (w : World) :
    Calls Tryz.prog 218 #[.int .u64 (hi64 z), .int .u64 (lo64 z), .int .u64 (y : Int)] w fun e w' => e = .returned (.tuple #[.int .u64 (q : Int), .int .u64 (r : Int)]) ∧ ∃ n, w' = w.drewN n := by
  subst hq hr
  by_cases h0 : z / 18446744073709551616 = 0
  · have e1 : hi64 z = ((0 : Nat) : Int) := by unfold hi64; rw [h0]
    have e2 : lo64 z = (z : Int) := by unfold lo64; congr 1; omega
    rw [e1, e2]
    exact div64_low z y (by omega) hy (by omega) w
  · refine (div64_any (z / 18446744073709551616) (z % 18446744073709551616) y hz (by omega) (by omega) hy z (by omega) w).mono ?_
    rintro e w' ⟨rfl, rfl⟩
    exact ⟨rfl, 0, rfl⟩

theorem wwhole (n : Nat) (h : n < 9223372036854775808) (w : World) : Calls Tryz.prog 219 #[.int .u64 (n : Int), .bool false] w fun e w' => e = .returned (.tuple #[.int .i64 (n : Int), .int .i64 0]) ∧ w = w' := by
  have t : decide ((n : Int) ≤ 9223372036854775807) = true := by simp; omega
  have wr : IntKind.i64.wrap (n : Int) = (n : Int) := by rw [IntKind.wrap_i64]; omega
  clear h
  go_enter Tryz.func219, Tryz.ntmps219
  go_wp2
  go_ret2
  exact ⟨rfl, rfl⟩

theorem wquot_down (z b q : Nat) (hz : z / 18446744073709551616 < b) (hb : b < 9223372036854775808) (hq : q = z / b) (hq' : q < 9223372036854775808) (w : World) :
    Calls Tryz.prog 196 #[.agg #[.int .u64 (hi64 z), .int .u64 (lo64 z), .bool false], .int .i64 (b : Int), .bool false] w fun e w' => e = .returned (.tuple #[.int .i64 (q : Int), .int .i64 0]) ∧ Below w.heap.size w w' := by
  obtain ⟨r, hr⟩ : ∃ r, r = z % b := ⟨_, rfl⟩
  have ea : (b : Int).natAbs = b := rfl
  have t1 : decide ((b : Int) ≤ hi64 z) = false := by unfold hi64; simp; omega
  have t2 : decide ((b : Int) < 0) = false := by simp
  have HQ := Lib.hid hq'
  have Hq := Lib.hid hq
  have Hr := Lib.hid hr
  have Hz := Lib.hid hz
  have Hb := Lib.hid hb
  clear hq' hq hr hz hb
  go_enter Tryz.func196, Tryz.ntmps196
  go_wp2_with (first | (go_at_call 216; (with_reducible refine (wsize _ (by have := Hb.out; omega) (by have := Hb.out; omega) _).mono ?_); rintro e w' ⟨rfl, rfl⟩) | (go_at_call 218; (with_reducible refine (div64 z b q r Hz.out (by have := Hb.out; omega) Hq.out Hr.out _).mono ?_); rintro e w1 ⟨rfl, nq, rfl⟩) | (go_at_call 219; (with_reducible refine (wwhole q HQ.out _).mono ?_); rintro e w' ⟨rfl, rfl⟩))
  all_goals (go_ret2; refine ⟨rfl, ?_⟩; (repeat' (first | assumption | exact Below.refl _ _ | exact Below.size (by assumption) | (refine Below.setCell ?_ ?_ _) | (refine Below.alloc ?_ ?_ _) | (refine Below.drew ?_) | (refine below_drewN ?_ _) | (refine Below.trans ?_ (Below.mono ‹Below _ _ _› ?_)) | omega | (simp; done) | (simp; omega) | (simp at *; omega))))
theorem up_exact {z b : Nat} (h : z % b = 0) (hb : 0 < b) : (z + b - 1) / b = z / b := by
  have e : z = b * (z / b) := by have := Nat.div_add_mod z b; omega
  have : z + b - 1 = (b - 1) + b * (z / b) := by omega
  rw [this, Nat.add_mul_div_left _ _ hb, Nat.div_eq_of_lt (by omega : b - 1 < b)]; omega
theorem up_more {z b : Nat} (h : 0 < z % b) (hb : 0 < b) : (z + b - 1) / b = z / b + 1 := by
  have e := Nat.div_add_mod z b
  have hm := Nat.mod_lt z hb
  have : z + b - 1 = (z % b - 1) + b * (z / b + 1) := by rw [Nat.mul_add]; omega
  rw [this, Nat.add_mul_div_left _ _ hb, Nat.div_eq_of_lt (by omega : z % b - 1 < b)]; omega
theorem wquot_up (z b q : Nat) (hz : z / 18446744073709551616 < b) (hb : b < 9223372036854775808) (hq : q = (z + b - 1) / b) (hq' : q < 9223372036854775808) (w : World) :
    Calls Tryz.prog 196 #[.agg #[.int .u64 (hi64 z), .int .u64 (lo64 z), .bool false], .int .i64 (b : Int), .bool true] w fun e w' => e = .returned (.tuple #[.int .i64 (q : Int), .int .i64 0]) ∧ Below w.heap.size w w' := by
  obtain ⟨r, hr⟩ : ∃ r, r = z % b := ⟨_, rfl⟩
  obtain ⟨p, hp⟩ : ∃ r, r = z / b := ⟨_, rfl⟩
  have ea : (b : Int).natAbs = b := rfl
  have t1 : decide ((b : Int) ≤ hi64 z) = false := by unfold hi64; simp; omega
  have t2 : decide ((b : Int) < 0) = false := by simp
  have Hr := Lib.hid hr
  have Hp := Lib.hid hp
  have Hz := Lib.hid hz
  have Hb := Lib.hid hb
  have HQ := Lib.hid hq'
  by_cases h0 : r = 0
  · have e := up_exact (z := z) (b := b) (by rw [← hr, h0]) (by omega)
    rw [e, ← hp] at hq
    subst hq h0
    clear hq' hr hz hb e hp
    go_enter Tryz.func196, Tryz.ntmps196
    go_wp2_with (first | (go_at_call 216; (with_reducible refine (wsize _ (by have := Hb.out; omega) (by have := Hb.out; omega) _).mono ?_); rintro e w' ⟨rfl, rfl⟩) | (go_at_call 218; (with_reducible refine (div64 z b q 0 Hz.out (by have := Hb.out; omega) Hp.out Hr.out _).mono ?_); rintro e w1 ⟨rfl, nq, rfl⟩) | (go_at_call 219; (with_reducible refine (wwhole q HQ.out _).mono ?_); rintro e w' ⟨rfl, rfl⟩))
    all_goals (go_ret2; refine ⟨rfl, ?_⟩; (repeat' (first | assumption | exact Below.refl _ _ | exact Below.size (by assumption) | (refine Below.setCell ?_ ?_ _) | (refine Below.alloc ?_ ?_ _) | (refine Below.drew ?_) | (refine below_drewN ?_ _) | (refine Below.trans ?_ (Below.mono ‹Below _ _ _› ?_)) | omega | (simp; done) | (simp; omega) | (simp at *; omega))))
  · have e := up_more (z := z) (b := b) (by rw [← hr]; omega) (by omega)
    rw [e, ← hp] at hq
    have t3 : decide (0 < r) = true := by simp; omega
    have s1 : IntKind.u64.wrap ((p : Int) + 1) = (q : Int) := by rw [IntKind.wrap_u64]; omega
    have t4 : ((q : Int) == 0) = false := by simp; omega
    clear hq' hr hz hb e hp hq h0
    go_enter Tryz.func196, Tryz.ntmps196
    go_wp2_with (first | (go_at_call 216; (with_reducible refine (wsize _ (by have := Hb.out; omega) (by have := Hb.out; omega) _).mono ?_); rintro e w' ⟨rfl, rfl⟩) | (go_at_call 218; (with_reducible refine (div64 z b p r Hz.out (by have := Hb.out; omega) Hp.out Hr.out _).mono ?_); rintro e w1 ⟨rfl, nq, rfl⟩) | (go_at_call 219; (with_reducible refine (wwhole q HQ.out _).mono ?_); rintro e w' ⟨rfl, rfl⟩))
    all_goals (go_ret2; refine ⟨rfl, ?_⟩; (repeat' (first | assumption | exact Below.refl _ _ | exact Below.size (by assumption) | (refine Below.setCell ?_ ?_ _) | (refine Below.alloc ?_ ?_ _) | (refine Below.drew ?_) | (refine below_drewN ?_ _) | (refine Below.trans ?_ (Below.mono ‹Below _ _ _› ?_)) | omega | (simp; done) | (simp; omega) | (simp at *; omega))))

end Go.Proofs.YtfgakaielfekoaaGreatDoor

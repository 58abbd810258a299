/- Integers of 120 bits: products, quotients, sums, at values that are not negative. -/
import Derived.Test.YthbdeaglncoanaaGreatDoorBase
import Derived.Test.YthbdeaglncoanaaGreatDoorDiv
import Derived.Laws.Rows
import Derived.Laws.NewBlocks
import Derived.Shelf.Spec.BitsCarry
namespace Go.Proofs.YthbdeaglncoanaaGreatDoor
open Go.RowKit
set_option linter.unusedVariables false
set_option linter.unusedSimpArgs false

theorem wsigned_pos (hi lo : Int) (w : World) : Calls Tryz.prog 135 #[.int .u64 hi, .int .u64 lo, .bool false] w fun e w' => e = .returned (.agg #[.int .u64 hi, .int .u64 lo, .bool false]) ∧ Below w.heap.size w w' := by
  go_enter Tryz.func135, Tryz.ntmps135
  go_wp2
  refine bodyPost_ret (v := .agg #[.int .u64 hi, .int .u64 lo, .bool false]) (by simp [results, Tryz.results135, go_sem]) rfl ⟨rfl, ?_⟩
  (repeat' (first | assumption | exact Below.refl _ _ | exact Below.size (by assumption) | (refine Below.setCell ?_ ?_ _) | (refine Below.alloc ?_ ?_ _) | (refine Below.drew ?_) | (refine below_drewN ?_ _) | (refine Below.trans ?_ (Below.mono ‹Below _ _ _› ?_)) | omega | (simp; done) | (simp; omega) | (simp at *; omega)))
theorem wsigned_zero (w : World) : Calls Tryz.prog 135 #[.int .u64 0, .int .u64 0, .bool true] w fun e w' => e = .returned (.agg #[.int .u64 0, .int .u64 0, .bool false]) ∧ Below w.heap.size w w' := by
  go_enter Tryz.func135, Tryz.ntmps135
  go_wp2
  refine bodyPost_ret (v := .agg #[.int .u64 0, .int .u64 0, .bool false]) (by simp [results, Tryz.results135, go_sem]) rfl ⟨rfl, ?_⟩
  (repeat' (first | assumption | exact Below.refl _ _ | exact Below.size (by assumption) | (refine Below.setCell ?_ ?_ _) | (refine Below.alloc ?_ ?_ _) | (refine Below.drew ?_) | (refine below_drewN ?_ _) | (refine Below.trans ?_ (Below.mono ‹Below _ _ _› ?_)) | omega | (simp; done) | (simp; omega) | (simp at *; omega)))
theorem wsigned_neg (hi lo : Int) (h : hi ≠ 0 ∨ lo ≠ 0) (w : World) : Calls Tryz.prog 135 #[.int .u64 hi, .int .u64 lo, .bool true] w fun e w' => e = .returned (.agg #[.int .u64 hi, .int .u64 lo, .bool true]) ∧ Below w.heap.size w w' := by
  by_cases h1 : hi = 0
  · have h2 : lo ≠ 0 := by omega
    subst h1
    go_enter Tryz.func135, Tryz.ntmps135
    go_wp2
    refine bodyPost_ret (v := .agg #[.int .u64 0, .int .u64 lo, .bool true]) (by simp [results, Tryz.results135, go_sem, h2]) rfl ⟨rfl, ?_⟩
    (repeat' (first | assumption | exact Below.refl _ _ | exact Below.size (by assumption) | (refine Below.setCell ?_ ?_ _) | (refine Below.alloc ?_ ?_ _) | (refine Below.drew ?_) | (refine below_drewN ?_ _) | (refine Below.trans ?_ (Below.mono ‹Below _ _ _› ?_)) | omega | (simp; done) | (simp; omega) | (simp at *; omega)))
  · go_enter Tryz.func135, Tryz.ntmps135
    go_wp2
    refine bodyPost_ret (v := .agg #[.int .u64 hi, .int .u64 lo, .bool true]) (by simp [results, Tryz.results135, go_sem]) rfl ⟨rfl, ?_⟩
    (repeat' (first | assumption | exact Below.refl _ _ | exact Below.size (by assumption) | (refine Below.setCell ?_ ?_ _) | (refine Below.alloc ?_ ?_ _) | (refine Below.drew ?_) | (refine below_drewN ?_ _) | (refine Below.trans ?_ (Below.mono ‹Below _ _ _› ?_)) | omega | (simp; done) | (simp; omega) | (simp at *; omega)))
theorem wtimes (a b : Nat) (ha : a < 9223372036854775808) (hb : b < 9223372036854775808) (w : World) : Calls Tryz.prog 120 #[.int .i64 (a : Int), .int .i64 (b : Int)] w fun e w' => e = .returned (.agg #[.int .u64 (hi64 (a * b)), .int .u64 (lo64 (a * b)), .bool false]) ∧ Below w.heap.size w w' := by
  have ea : (a : Int).natAbs = a := rfl
  have eb : (b : Int).natAbs = b := rfl
  have na : decide ((a : Int) < 0) = false := by simp
  have nb : decide ((b : Int) < 0) = false := by simp
  go_enter Tryz.func120, Tryz.ntmps120
  go_wp2_with (first | (go_at_call 134; (with_reducible refine (wsize _ (by omega) (by omega) _).mono ?_); rintro e w' ⟨rfl, rfl⟩) | (go_at_call 58; (with_reducible refine (mul64 a b (by omega) (by omega) _).mono ?_); rintro e w' ⟨rfl, rfl⟩) | (go_at_call 135; (with_reducible refine (wsigned_pos _ _ _).mono ?_); rintro e w1 ⟨rfl, hb1⟩; obtain ⟨hc1, hf1⟩ := bcell hb1; have hz1 := hb1.size; (try simp at hz1); (try simp only [heap_drew, World.heap_drewN] at hz1); (try simp only [heap_drew, World.heap_drewN] at hc1); (try simp only [heap_drew, World.heap_drewN] at hf1); (try have hs1 := Nat.lt_of_succ_le hz1); (try have hs2 := Nat.lt_of_succ_lt hs1); (try have y0 : w.heap.size < w1.heap.size := by omega); (try have y1 : w.heap.size + 1 < w1.heap.size := by omega); (try have y2 : w.heap.size + 2 < w1.heap.size := by omega)))
  refine bodyPost_ret (v := .agg #[.int .u64 (hi64 (a * b)), .int .u64 (lo64 (a * b)), .bool false]) (by simp [results, Tryz.results120, go_sem, *]) rfl ⟨rfl, ?_⟩
  (repeat' (first | assumption | exact Below.refl _ _ | exact Below.size (by assumption) | (refine Below.setCell ?_ ?_ _) | (refine Below.alloc ?_ ?_ _) | (refine Below.drew ?_) | (refine below_drewN ?_ _) | (refine Below.trans ?_ (Below.mono ‹Below _ _ _› ?_)) | omega | (simp; done) | (simp; omega) | (simp at *; omega)))

theorem div64 (z y q r : Nat) (hz : z / 18446744073709551616 < y) (hy : y < 18446744073709551616) (hq : q = z / y) (hr : r = z % y) (w : World) :
    Calls Tryz.prog 59 #[.int .u64 (hi64 z), .int .u64 (lo64 z), .int .u64 (y : Int)] w fun e w' => e = .returned (.tuple #[.int .u64 (q : Int), .int .u64 (r : Int)]) ∧ ∃ n, w' = w.drewN n := by
  subst hq hr
  by_cases h0 : z / 18446744073709551616 = 0
  · have e1 : hi64 z = ((0 : Nat) : Int) := by unfold hi64; rw [h0]
    have e2 : lo64 z = (z : Int) := by unfold lo64; congr 1; omega
    rw [e1, e2]
    exact div64_low z y (by omega) hy (by omega) w
  · refine (div64_any (z / 18446744073709551616) (z % 18446744073709551616) y hz (by omega) (by omega) hy z (by omega) w).mono ?_
    rintro e w' ⟨rfl, rfl⟩
    exact ⟨rfl, 0, rfl⟩

theorem wwhole (n : Nat) (h : n < 9223372036854775808) (w : World) : Calls Tryz.prog 127 #[.int .u64 (n : Int), .bool false] w fun e w' => e = .returned (.tuple #[.int .i64 (n : Int), .int .i64 0]) ∧ w = w' := by
  have t : decide ((n : Int) ≤ 9223372036854775807) = true := by simp; omega
  have wr : IntKind.i64.wrap (n : Int) = (n : Int) := by rw [IntKind.wrap_i64]; omega
  clear h
  go_enter Tryz.func127, Tryz.ntmps127
  go_wp2
  go_ret2
  exact ⟨rfl, rfl⟩

theorem wquot_down (z b q : Nat) (hz : z / 18446744073709551616 < b) (hb : b < 9223372036854775808) (hq : q = z / b) (hq' : q < 9223372036854775808) (w : World) :
    Calls Tryz.prog 121 #[.agg #[.int .u64 (hi64 z), .int .u64 (lo64 z), .bool false], .int .i64 (b : Int), .bool false] w fun e w' => e = .returned (.tuple #[.int .i64 (q : Int), .int .i64 0]) ∧ Below w.heap.size w w' := by
  obtain ⟨r, hr⟩ : ∃ r, r = z % b := ⟨_, rfl⟩
  have ea : (b : Int).natAbs = b := rfl
  have t1 : decide ((b : Int) ≤ hi64 z) = false := by unfold hi64; simp; omega
  have t2 : decide ((b : Int) < 0) = false := by simp
  have HQ := Lib.hid hq'
  have Hq := Lib.hid hq
  have Hr := Lib.hid hr
  have Hz := Lib.hid hz
  have Hb := Lib.hid hb
  clear hq' hq hr hz hb
  go_enter Tryz.func121, Tryz.ntmps121
  go_wp2_with (first | (go_at_call 134; (with_reducible refine (wsize _ (by have := Hb.out; omega) (by have := Hb.out; omega) _).mono ?_); rintro e w' ⟨rfl, rfl⟩) | (go_at_call 59; (with_reducible refine (div64 z b q r Hz.out (by have := Hb.out; omega) Hq.out Hr.out _).mono ?_); rintro e w1 ⟨rfl, nq, rfl⟩) | (go_at_call 127; (with_reducible refine (wwhole q HQ.out _).mono ?_); rintro e w' ⟨rfl, rfl⟩))
  all_goals (go_ret2; refine ⟨rfl, ?_⟩; (repeat' (first | assumption | exact Below.refl _ _ | exact Below.size (by assumption) | (refine Below.setCell ?_ ?_ _) | (refine Below.alloc ?_ ?_ _) | (refine Below.drew ?_) | (refine below_drewN ?_ _) | (refine Below.trans ?_ (Below.mono ‹Below _ _ _› ?_)) | omega | (simp; done) | (simp; omega) | (simp at *; omega))))
theorem up_exact {z b : Nat} (h : z % b = 0) (hb : 0 < b) : (z + b - 1) / b = z / b := by
  have e : z = b * (z / b) := by have := Nat.div_add_mod z b; omega
  have : z + b - 1 = (b - 1) + b * (z / b) := by omega
  rw [this, Nat.add_mul_div_left _ _ hb, Nat.div_eq_of_lt (by omega : b - 1 < b)]; omega
theorem up_more {z b : Nat} (h : 0 < z % b) (hb : 0 < b) : (z + b - 1) / b = z / b + 1 := by
  have e := Nat.div_add_mod z b
  have hm := Nat.mod_lt z hb
  have : z + b - 1 = (z % b - 1) + b * (z / b + 1) := by rw [Nat.mul_add]; omega
  rw [this, Nat.add_mul_div_left _ _ hb, Nat.div_eq_of_lt (by omega : z % b - 1 < b)]; omega
theorem wquot_up (z b q : Nat) (hz : z / 18446744073709551616 < b) (hb : b < 9223372036854775808) (hq : q = (z + b - 1) / b) (hq' : q < 9223372036854775808) (w : World) :
    Calls Tryz.prog 121 #[.agg #[.int .u64 (hi64 z), .int .u64 (lo64 z), .bool false], .int .i64 (b : Int), .bool true] w fun e w' => e = .returned (.tuple #[.int .i64 (q : Int), .int .i64 0]) ∧ Below w.heap.size w w' := by
  obtain ⟨r, hr⟩ : ∃ r, r = z % b := ⟨_, rfl⟩
  obtain ⟨p, hp⟩ : ∃ r, r = z / b := ⟨_, rfl⟩
  have ea : (b : Int).natAbs = b := rfl
  have t1 : decide ((b : Int) ≤ hi64 z) = false := by unfold hi64; simp; omega
  have t2 : decide ((b : Int) < 0) = false := by simp
  have Hr := Lib.hid hr
  have Hp := Lib.hid hp
  have Hz := Lib.hid hz
  have Hb := Lib.hid hb
  have HQ := Lib.hid hq'
  by_cases h0 : r = 0
  · have e := up_exact (z := z) (b := b) (by rw [← hr, h0]) (by omega)
    rw [e, ← hp] at hq
    subst hq h0
    clear hq' hr hz hb e hp
    go_enter Tryz.func121, Tryz.ntmps121
    go_wp2_with (first | (go_at_call 134; (with_reducible refine (wsize _ (by have := Hb.out; omega) (by have := Hb.out; omega) _).mono ?_); rintro e w' ⟨rfl, rfl⟩) | (go_at_call 59; (with_reducible refine (div64 z b q 0 Hz.out (by have := Hb.out; omega) Hp.out Hr.out _).mono ?_); rintro e w1 ⟨rfl, nq, rfl⟩) | (go_at_call 127; (with_reducible refine (wwhole q HQ.out _).mono ?_); rintro e w' ⟨rfl, rfl⟩))
    all_goals (go_ret2; refine ⟨rfl, ?_⟩; (repeat' (first | assumption | exact Below.refl _ _ | exact Below.size (by assumption) | (refine Below.setCell ?_ ?_ _) | (refine Below.alloc ?_ ?_ _) | (refine Below.drew ?_) | (refine below_drewN ?_ _) | (refine Below.trans ?_ (Below.mono ‹Below _ _ _› ?_)) | omega | (simp; done) | (simp; omega) | (simp at *; omega))))
  · have e := up_more (z := z) (b := b) (by rw [← hr]; omega) (by omega)
    rw [e, ← hp] at hq
    have t3 : decide (0 < r) = true := by simp; omega
    have s1 : IntKind.u64.wrap ((p : Int) + 1) = (q : Int) := by rw [IntKind.wrap_u64]; omega
    have t4 : ((q : Int) == 0) = false := by simp; omega
    clear hq' hr hz hb e hp hq h0
    go_enter Tryz.func121, Tryz.ntmps121
    go_wp2_with (first | (go_at_call 134; (with_reducible refine (wsize _ (by have := Hb.out; omega) (by have := Hb.out; omega) _).mono ?_); rintro e w' ⟨rfl, rfl⟩) | (go_at_call 59; (with_reducible refine (div64 z b p r Hz.out (by have := Hb.out; omega) Hp.out Hr.out _).mono ?_); rintro e w1 ⟨rfl, nq, rfl⟩) | (go_at_call 127; (with_reducible refine (wwhole q HQ.out _).mono ?_); rintro e w' ⟨rfl, rfl⟩))
    all_goals (go_ret2; refine ⟨rfl, ?_⟩; (repeat' (first | assumption | exact Below.refl _ _ | exact Below.size (by assumption) | (refine Below.setCell ?_ ?_ _) | (refine Below.alloc ?_ ?_ _) | (refine Below.drew ?_) | (refine below_drewN ?_ _) | (refine Below.trans ?_ (Below.mono ‹Below _ _ _› ?_)) | omega | (simp; done) | (simp; omega) | (simp at *; omega))))

/-- The two parts of an integer that the package shows. -/
def hiW (z : Nat) : Int := ((z / 1152921504606846976 : Nat) : Int)
def loW (z : Nat) : Int := ((z % 1152921504606846976 : Nat) : Int)

theorem wplaced (z : Nat) (hz : z < 1329227995784915872903807060280344576) (w : World) :
    Calls Tryz.prog 122 #[.agg #[.int .u64 (hi64 z), .int .u64 (lo64 z), .bool false]] w fun e w' => e = .returned (.tuple #[.agg #[.int .i64 (hiW z), .int .i64 (loW z)], .int .i64 0]) ∧ Below w.heap.size w w' := by
  have h1 : z / 18446744073709551616 < 72057594037927936 := by omega
  have t1 : decide ((72057594037927936 : Int) < hi64 z) = false := by unfold hi64; simp; omega
  have t2 : (hi64 z == 72057594037927936) = false := by unfold hi64; simp; omega
  have hjoin : z / 18446744073709551616 * 16 ||| z % 18446744073709551616 / 1152921504606846976 = z / 1152921504606846976 := by
    rw [nat_join 4 _ _ (Nat.mul_mod_left _ _) (by omega)]; omega
  have s1 : IntKind.u64.wrap (hi64 z * 16) = ((z / 18446744073709551616 * 16 : Nat) : Int) := by unfold hi64; rw [IntKind.wrap_u64]; omega
  have s2 : lo64 z / 1152921504606846976 = ((z % 18446744073709551616 / 1152921504606846976 : Nat) : Int) := by unfold lo64; omega
  have s3 : bits .or .u64 ((z / 18446744073709551616 * 16 : Nat) : Int) ((z % 18446744073709551616 / 1152921504606846976 : Nat) : Int) = hiW z := by
    rw [u64_or_nat _ _ (by omega) (by omega), hjoin]; rfl
  have s4 : bits .and .u64 (lo64 z) 1152921504606846975 = loW z := by
    unfold lo64 loW
    have h := u64_and_nat (z % 18446744073709551616) 1152921504606846975 (by omega) (by omega)
    rw [show (z % 18446744073709551616) &&& 1152921504606846975 = z % 18446744073709551616 % 1152921504606846976 from Nat.and_two_pow_sub_one_eq_mod _ 60] at h
    rw [show (1152921504606846975 : Int) = ((1152921504606846975 : Nat) : Int) from rfl, h]
    congr 1; omega
  have s5 : IntKind.i64.wrap (hiW z) = hiW z := by unfold hiW; rw [IntKind.wrap_i64]; omega
  have s6 : IntKind.i64.wrap (loW z) = loW z := by unfold loW; rw [IntKind.wrap_i64]; omega
  obtain ⟨A, hA⟩ : ∃ A : Nat, A = z / 18446744073709551616 * 16 := ⟨_, rfl⟩
  obtain ⟨B, hB⟩ : ∃ A : Nat, A = z % 18446744073709551616 / 1152921504606846976 := ⟨_, rfl⟩
  rw [← hA] at s1 s3
  rw [← hB] at s2 s3
  clear hA hB h1 hz hjoin
  go_enter Tryz.func122, Tryz.ntmps122
  go_wp2
  go_quiet (fail)
  go_wp2
  refine bodyPost_ret (v := .tuple #[.agg #[.int .i64 (hiW z), .int .i64 (loW z)], .int .i64 0]) (by simp [results, Tryz.results122, go_sem]) rfl ⟨rfl, ?_⟩
  (repeat' (first | assumption | exact Below.refl _ _ | exact Below.size (by assumption) | (refine Below.setCell ?_ ?_ _) | (refine Below.alloc ?_ ?_ _) | (refine Below.drew ?_) | (refine below_drewN ?_ _) | (refine Below.trans ?_ (Below.mono ‹Below _ _ _› ?_)) | omega | (simp; done) | (simp; omega) | (simp at *; omega)))

theorem wvalid (z : Nat) (hz : z < 1329227995784915872903807060280344576) (w : World) :
    Calls Tryz.prog 123 #[.agg #[.int .i64 (hiW z), .int .i64 (loW z)]] w fun e w' => e = .returned (.bool true) ∧ Below w.heap.size w w' := by
  have t1 : decide ((-1152921504606846976 : Int) ≤ hiW z) = true := by unfold hiW; simp; omega
  have t2 : decide (hiW z < (1152921504606846976 : Int)) = true := by unfold hiW; simp; omega
  have t3 : decide ((0 : Int) ≤ loW z) = true := by unfold loW; simp; omega
  have t4 : decide (loW z < (1152921504606846976 : Int)) = true := by unfold loW; simp; omega
  clear hz
  go_enter Tryz.func123, Tryz.ntmps123
  go_wp2
  go_ret
  refine ⟨rfl, ?_⟩
  (repeat' (first | assumption | exact Below.refl _ _ | exact Below.size (by assumption) | (refine Below.setCell ?_ ?_ _) | (refine Below.alloc ?_ ?_ _) | (refine Below.drew ?_) | (refine below_drewN ?_ _) | (refine Below.trans ?_ (Below.mono ‹Below _ _ _› ?_)) | omega | (simp; done) | (simp; omega) | (simp at *; omega)))

theorem wvalue (z : Nat) (hz : z < 1329227995784915872903807060280344576) (w : World) :
    Calls Tryz.prog 125 #[.agg #[.int .i64 (hiW z), .int .i64 (loW z)]] w fun e w' => e = .returned (.agg #[.int .u64 (hi64 z), .int .u64 (lo64 z), .bool false]) ∧ Below w.heap.size w w' := by
  have e1 : (hiW z).natAbs = z / 1152921504606846976 := rfl
  obtain ⟨A, hA⟩ : ∃ A : Nat, A = z / 1152921504606846976 := ⟨_, rfl⟩
  have t1 : decide ((0 : Int) ≤ hiW z) = true := by unfold hiW; simp; omega
  have s1 : (A : Int) / 16 = hi64 z := by unfold hi64; omega
  have s2 : IntKind.u64.wrap ((A : Int) * 1152921504606846976) = ((A * 1152921504606846976 % 18446744073709551616 : Nat) : Int) := by rw [IntKind.wrap_u64]; omega
  have s3 : IntKind.u64.wrap (loW z) = ((z % 1152921504606846976 : Nat) : Int) := by unfold loW; rw [IntKind.wrap_u64]; omega
  have s4 : bits .or .u64 ((A * 1152921504606846976 % 18446744073709551616 : Nat) : Int) ((z % 1152921504606846976 : Nat) : Int) = lo64 z := by
    rw [u64_or_nat _ _ (by omega) (by omega), nat_join 60 _ _ (by omega) (by omega)]; unfold lo64; congr 1; omega
  obtain ⟨B, hB⟩ : ∃ A' : Nat, A' = A * 1152921504606846976 % 18446744073709551616 := ⟨_, rfl⟩
  obtain ⟨C, hC⟩ : ∃ A' : Nat, A' = z % 1152921504606846976 := ⟨_, rfl⟩
  rw [← hB] at s2 s4
  rw [← hC] at s3 s4
  rw [← hA] at e1
  have b1 : -9223372036854775808 ≤ hiW z := by unfold hiW; omega
  have b2 : hiW z ≤ 9223372036854775807 := by unfold hiW; omega
  have B1 := Lib.hid b1
  have B2 := Lib.hid b2
  clear hA hB hC hz b1 b2
  go_enter Tryz.func125, Tryz.ntmps125
  go_wp2_with (go_at_call 134; (with_reducible refine (wsize _ B1.out B2.out _).mono ?_); rintro e w' ⟨rfl, rfl⟩)
  refine bodyPost_ret (v := .agg #[.int .u64 (hi64 z), .int .u64 (lo64 z), .bool false]) (by simp [results, Tryz.results125, go_sem]) rfl ⟨rfl, ?_⟩
  (repeat' (first | assumption | exact Below.refl _ _ | exact Below.size (by assumption) | (refine Below.setCell ?_ ?_ _) | (refine Below.alloc ?_ ?_ _) | (refine Below.drew ?_) | (refine below_drewN ?_ _) | (refine Below.trans ?_ (Below.mono ‹Below _ _ _› ?_)) | omega | (simp; done) | (simp; omega) | (simp at *; omega)))

theorem wminus_zero (w : World) : Calls Tryz.prog 126 #[.agg #[.int .u64 0, .int .u64 0, .bool false]] w fun e w' => e = .returned (.agg #[.int .u64 0, .int .u64 0, .bool false]) ∧ Below w.heap.size w w' := by
  go_enter Tryz.func126, Tryz.ntmps126
  go_wp2_with (go_at_call 135; (with_reducible refine (wsigned_zero _).mono ?_); rintro e w1 ⟨rfl, hb1⟩; obtain ⟨hc1, hf1⟩ := bcell hb1; have hz1 := hb1.size; (try simp at hz1); (try simp only [heap_drew, World.heap_drewN] at hz1); (try simp only [heap_drew, World.heap_drewN] at hc1); (try simp only [heap_drew, World.heap_drewN] at hf1); (try have hs1 := Nat.lt_of_succ_le hz1); (try have hs2 := Nat.lt_of_succ_lt hs1); (try have y0 : w.heap.size < w1.heap.size := by omega); (try have y1 : w.heap.size + 1 < w1.heap.size := by omega); (try have y2 : w.heap.size + 2 < w1.heap.size := by omega))
  refine bodyPost_ret (v := .agg #[.int .u64 0, .int .u64 0, .bool false]) (by simp [results, Tryz.results126, go_sem, *]) rfl ⟨rfl, ?_⟩
  (repeat' (first | assumption | exact Below.refl _ _ | exact Below.size (by assumption) | (refine Below.setCell ?_ ?_ _) | (refine Below.alloc ?_ ?_ _) | (refine Below.drew ?_) | (refine below_drewN ?_ _) | (refine Below.trans ?_ (Below.mono ‹Below _ _ _› ?_)) | omega | (simp; done) | (simp; omega) | (simp at *; omega)))
theorem wminus_neg (hi lo : Int) (h : hi ≠ 0 ∨ lo ≠ 0) (w : World) : Calls Tryz.prog 126 #[.agg #[.int .u64 hi, .int .u64 lo, .bool false]] w fun e w' => e = .returned (.agg #[.int .u64 hi, .int .u64 lo, .bool true]) ∧ Below w.heap.size w w' := by
  have H := Lib.hid h
  clear h
  go_enter Tryz.func126, Tryz.ntmps126
  go_wp2_with (go_at_call 135; (with_reducible refine (wsigned_neg _ _ H.out _).mono ?_); rintro e w1 ⟨rfl, hb1⟩; obtain ⟨hc1, hf1⟩ := bcell hb1; have hz1 := hb1.size; (try simp at hz1); (try simp only [heap_drew, World.heap_drewN] at hz1); (try simp only [heap_drew, World.heap_drewN] at hc1); (try simp only [heap_drew, World.heap_drewN] at hf1); (try have hs1 := Nat.lt_of_succ_le hz1); (try have hs2 := Nat.lt_of_succ_lt hs1); (try have y0 : w.heap.size < w1.heap.size := by omega); (try have y1 : w.heap.size + 1 < w1.heap.size := by omega); (try have y2 : w.heap.size + 2 < w1.heap.size := by omega))
  refine bodyPost_ret (v := .agg #[.int .u64 hi, .int .u64 lo, .bool true]) (by simp [results, Tryz.results126, go_sem, *]) rfl ⟨rfl, ?_⟩
  (repeat' (first | assumption | exact Below.refl _ _ | exact Below.size (by assumption) | (refine Below.setCell ?_ ?_ _) | (refine Below.alloc ?_ ?_ _) | (refine Below.drew ?_) | (refine below_drewN ?_ _) | (refine Below.trans ?_ (Below.mono ‹Below _ _ _› ?_)) | omega | (simp; done) | (simp; omega) | (simp at *; omega)))

theorem run_add64_lo (x : Nat) (w : World) :
    (callFunc 136 #[.int .u64 (lo64 x), .int .u64 0, .int .u64 0]).run Tryz.prog w = .ok (.value (.tuple #[.int .u64 (lo64 x), .int .u64 0])) w := by
  rw [run_callFunc_extern Tryz.func136 (by kernel_rfl) (by kernel_rfl) (by kernel_rfl) (e := add64Entry) (by kernel_rfl), run_add64 (lo64 x) 0 0 (by unfold lo64; omega) (by omega) (by omega) (by omega)]
  have e1 : (lo64 x + 0 + 0) % 18446744073709551616 = lo64 x := by unfold lo64; omega
  have e2 : (lo64 x + 0 + 0) / 18446744073709551616 = 0 := by unfold lo64; omega
  rw [e1, e2]; rfl
theorem run_sub64_lo (x y : Nat) (h : y ≤ x) (w : World) :
    (callFunc 137 #[.int .u64 (lo64 x), .int .u64 (lo64 y), .int .u64 0]).run Tryz.prog w =
      .ok (.value (.tuple #[.int .u64 (lo64 (x - y)), .int .u64 ((if x % 18446744073709551616 < y % 18446744073709551616 then 1 else 0 : Nat) : Int)])) w := by
  have h1 : (sub64Entry #[.int .u64 (lo64 x), .int .u64 (lo64 y), .int .u64 0]).run Tryz.prog w =
      .ok (.tuple #[.int .u64 (((x % 18446744073709551616 + 18446744073709551616 - y % 18446744073709551616 - 0) % 18446744073709551616 : Nat) : Int), .int .u64 ((if x % 18446744073709551616 < y % 18446744073709551616 + 0 then 1 else 0 : Nat) : Int)]) w :=
    run_sub64 (x % 18446744073709551616) (y % 18446744073709551616) 0 (by omega) w
  rw [run_callFunc_extern Tryz.func137 (by kernel_rfl) (by kernel_rfl) (by kernel_rfl) (e := sub64Entry) (by kernel_rfl), h1]
  have e1 : (((x % 18446744073709551616 + 18446744073709551616 - y % 18446744073709551616 - 0) % 18446744073709551616 : Nat) : Int) = lo64 (x - y) := by unfold lo64; omega
  rw [e1]; rfl

theorem wsum_zero (x : Nat) (hx : x < 1329227995784915872903807060280344576) (w : World) :
    Calls Tryz.prog 124 #[.agg #[.int .u64 (hi64 x), .int .u64 (lo64 x), .bool false], .agg #[.int .u64 0, .int .u64 0, .bool false]] w fun e w' => e = .returned (.agg #[.int .u64 (hi64 x), .int .u64 (lo64 x), .bool false]) ∧ Below w.heap.size w w' := by
  have s1 : IntKind.u64.wrap (hi64 x) = hi64 x := by unfold hi64; rw [IntKind.wrap_u64]; omega
  have add := run_add64_lo x
  clear hx
  go_enter Tryz.func124, Tryz.ntmps124
  go_wp2_with (first | (simp only [add]) | (go_at_call 135; (with_reducible refine (wsigned_pos _ _ _).mono ?_); rintro e w1 ⟨rfl, hb1⟩; obtain ⟨hc1, hf1⟩ := bcell hb1; have hz1 := hb1.size; (try simp at hz1); (try simp only [heap_drew, World.heap_drewN] at hz1); (try simp only [heap_drew, World.heap_drewN] at hc1); (try simp only [heap_drew, World.heap_drewN] at hf1); (try have hs1 := Nat.lt_of_succ_le hz1); (try have hs2 := Nat.lt_of_succ_lt hs1); (try have y0 : w.heap.size < w1.heap.size := by omega); (try have y1 : w.heap.size + 1 < w1.heap.size := by omega); (try have y2 : w.heap.size + 2 < w1.heap.size := by omega)))
  refine bodyPost_ret (v := .agg #[.int .u64 (hi64 x), .int .u64 (lo64 x), .bool false]) (by simp [results, Tryz.results124, go_sem, *]) rfl ⟨rfl, ?_⟩
  (repeat' (first | assumption | exact Below.refl _ _ | exact Below.size (by assumption) | (refine Below.setCell ?_ ?_ _) | (refine Below.alloc ?_ ?_ _) | (refine Below.drew ?_) | (refine below_drewN ?_ _) | (refine Below.trans ?_ (Below.mono ‹Below _ _ _› ?_)) | omega | (simp; done) | (simp; omega) | (simp at *; omega)))

theorem wsum_sub (x y : Nat) (hx : x < 1329227995784915872903807060280344576) (h : y ≤ x) (w : World) :
    Calls Tryz.prog 124 #[.agg #[.int .u64 (hi64 x), .int .u64 (lo64 x), .bool false], .agg #[.int .u64 (hi64 y), .int .u64 (lo64 y), .bool true]] w fun e w' => e = .returned (.agg #[.int .u64 (hi64 (x - y)), .int .u64 (lo64 (x - y)), .bool false]) ∧ Below w.heap.size w w' := by
  have t1 : decide (hi64 x < hi64 y) = false := by unfold hi64; simp; omega
  obtain ⟨b, hb⟩ : ∃ b : Int, b = ((if x % 18446744073709551616 < y % 18446744073709551616 then 1 else 0 : Nat) : Int) := ⟨_, rfl⟩
  have sub := run_sub64_lo x y h
  rw [← hb] at sub
  obtain ⟨A, hA⟩ : ∃ A : Int, A = IntKind.u64.wrap (hi64 x - hi64 y) := ⟨_, rfl⟩
  have s2 : IntKind.u64.wrap (A - b) = hi64 (x - y) := by
    rw [hA, hb]; unfold hi64; simp only [IntKind.wrap_u64]
    split <;> omega
  have hA' := hA.symm
  by_cases he : x / 18446744073709551616 = y / 18446744073709551616
  · have t2 : (hi64 x == hi64 y) = true := by unfold hi64; simp; omega
    have t3 : decide (lo64 x < lo64 y) = false := by unfold lo64; simp; omega
    clear hA hb hx h he
    go_enter Tryz.func124, Tryz.ntmps124
    go_wp2_with (first | (simp only [sub]) | (go_at_call 135; (with_reducible refine (wsigned_pos _ _ _).mono ?_); rintro e w1 ⟨rfl, hb1⟩; obtain ⟨hc1, hf1⟩ := bcell hb1; have hz1 := hb1.size; (try simp at hz1); (try simp only [heap_drew, World.heap_drewN] at hz1); (try simp only [heap_drew, World.heap_drewN] at hc1); (try simp only [heap_drew, World.heap_drewN] at hf1); (try have hs1 := Nat.lt_of_succ_le hz1); (try have hs2 := Nat.lt_of_succ_lt hs1); (try have y0 : w.heap.size < w1.heap.size := by omega); (try have y1 : w.heap.size + 1 < w1.heap.size := by omega); (try have y2 : w.heap.size + 2 < w1.heap.size := by omega)))
    refine bodyPost_ret (v := .agg #[.int .u64 (hi64 (x - y)), .int .u64 (lo64 (x - y)), .bool false]) (by simp [results, Tryz.results124, go_sem, *]) rfl ⟨rfl, ?_⟩
    (repeat' (first | assumption | exact Below.refl _ _ | exact Below.size (by assumption) | (refine Below.setCell ?_ ?_ _) | (refine Below.alloc ?_ ?_ _) | (refine Below.drew ?_) | (refine below_drewN ?_ _) | (refine Below.trans ?_ (Below.mono ‹Below _ _ _› ?_)) | omega | (simp; done) | (simp; omega) | (simp at *; omega)))
  · have t2 : (hi64 x == hi64 y) = false := by unfold hi64; simp; omega
    clear hA hb hx h he
    go_enter Tryz.func124, Tryz.ntmps124
    go_wp2_with (first | (simp only [sub]) | (go_at_call 135; (with_reducible refine (wsigned_pos _ _ _).mono ?_); rintro e w1 ⟨rfl, hb1⟩; obtain ⟨hc1, hf1⟩ := bcell hb1; have hz1 := hb1.size; (try simp at hz1); (try simp only [heap_drew, World.heap_drewN] at hz1); (try simp only [heap_drew, World.heap_drewN] at hc1); (try simp only [heap_drew, World.heap_drewN] at hf1); (try have hs1 := Nat.lt_of_succ_le hz1); (try have hs2 := Nat.lt_of_succ_lt hs1); (try have y0 : w.heap.size < w1.heap.size := by omega); (try have y1 : w.heap.size + 1 < w1.heap.size := by omega); (try have y2 : w.heap.size + 2 < w1.heap.size := by omega)))
    refine bodyPost_ret (v := .agg #[.int .u64 (hi64 (x - y)), .int .u64 (lo64 (x - y)), .bool false]) (by simp [results, Tryz.results124, go_sem, *]) rfl ⟨rfl, ?_⟩
    (repeat' (first | assumption | exact Below.refl _ _ | exact Below.size (by assumption) | (refine Below.setCell ?_ ?_ _) | (refine Below.alloc ?_ ?_ _) | (refine Below.drew ?_) | (refine below_drewN ?_ _) | (refine Below.trans ?_ (Below.mono ‹Below _ _ _› ?_)) | omega | (simp; done) | (simp; omega) | (simp at *; omega)))
end Go.Proofs.YthbdeaglncoanaaGreatDoor

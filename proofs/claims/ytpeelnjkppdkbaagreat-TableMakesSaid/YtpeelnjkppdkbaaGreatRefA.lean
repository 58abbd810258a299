/- The reference's numbers of 128 bits: comparison, difference, product, shift, as signed numbers. -/
import Derived.Test.YtpeelnjkppdkbaaGreatWide
import Derived.RegionTactic
import Derived.LoopTactic
namespace Go.Proofs.YtpeelnjkppdkbaaGreat
open Go.RowKit
set_option linter.unusedVariables false
set_option linter.unusedSimpArgs false

theorem rless (a b : Nat) (f : Bool) (hf : f = decide (a < b)) (w : World) :
    Calls Tryz.prog 99 #[.agg #[.int .u64 (hi64 a), .int .u64 (lo64 a)], .agg #[.int .u64 (hi64 b), .int .u64 (lo64 b)]] w fun e w' => e = .returned (.bool f) ∧ Below w.heap.size w w' := by
  rcases Nat.lt_trichotomy (a / 18446744073709551616) (b / 18446744073709551616) with hc | hc | hc
  · obtain rfl : f = true := by rw [hf]; exact decide_eq_true (by omega)
    have T1 : decide (hi64 a < hi64 b) = true := by unfold hi64; simp <;> omega
    clear hf hc
    go_enter Tryz.func99, Tryz.ntmps99
    go_wp2_with fail
    go_ret
    refine ⟨rfl, ?_⟩
    (repeat' (first | assumption | exact Below.refl _ _ | exact Below.size (by assumption) | (refine Below.setCell ?_ ?_ _) | (refine Below.alloc ?_ ?_ _) | (refine Below.drew ?_) | (refine below_drewN ?_ _) | (refine Below.trans ?_ (Below.mono ‹Below _ _ _› ?_)) | omega | (simp; done) | (simp; omega) | (simp at *; omega)))
  · have T1 : decide (hi64 a < hi64 b) = false := by unfold hi64; simp <;> omega
    have T2 : (hi64 a == hi64 b) = true := by unfold hi64; simp <;> omega
    by_cases hd : a % 18446744073709551616 < b % 18446744073709551616
    · obtain rfl : f = true := by rw [hf]; exact decide_eq_true (by omega)
      have T3 : decide (lo64 a < lo64 b) = true := by unfold lo64; simp <;> omega
      clear hf hc hd
      go_enter Tryz.func99, Tryz.ntmps99
      go_wp2_with fail
      go_ret
      refine ⟨rfl, ?_⟩
      (repeat' (first | assumption | exact Below.refl _ _ | exact Below.size (by assumption) | (refine Below.setCell ?_ ?_ _) | (refine Below.alloc ?_ ?_ _) | (refine Below.drew ?_) | (refine below_drewN ?_ _) | (refine Below.trans ?_ (Below.mono ‹Below _ _ _› ?_)) | omega | (simp; done) | (simp; omega) | (simp at *; omega)))
    · obtain rfl : f = false := by rw [hf]; exact decide_eq_false (by omega)
      have T3 : decide (lo64 a < lo64 b) = false := by unfold lo64; simp <;> omega
      clear hf hc hd
      go_enter Tryz.func99, Tryz.ntmps99
      go_wp2_with fail
      go_ret
      refine ⟨rfl, ?_⟩
      (repeat' (first | assumption | exact Below.refl _ _ | exact Below.size (by assumption) | (refine Below.setCell ?_ ?_ _) | (refine Below.alloc ?_ ?_ _) | (refine Below.drew ?_) | (refine below_drewN ?_ _) | (refine Below.trans ?_ (Below.mono ‹Below _ _ _› ?_)) | omega | (simp; done) | (simp; omega) | (simp at *; omega)))
  · obtain rfl : f = false := by rw [hf]; exact decide_eq_false (by omega)
    have T1 : decide (hi64 a < hi64 b) = false := by unfold hi64; simp <;> omega
    have T2 : (hi64 a == hi64 b) = false := by unfold hi64; simp <;> omega
    clear hf hc
    go_enter Tryz.func99, Tryz.ntmps99
    go_wp2_with fail
    go_ret
    refine ⟨rfl, ?_⟩
    (repeat' (first | assumption | exact Below.refl _ _ | exact Below.size (by assumption) | (refine Below.setCell ?_ ?_ _) | (refine Below.alloc ?_ ?_ _) | (refine Below.drew ?_) | (refine below_drewN ?_ _) | (refine Below.trans ?_ (Below.mono ‹Below _ _ _› ?_)) | omega | (simp; done) | (simp; omega) | (simp at *; omega)))

theorem minus_parts {a b : Nat} (h : b ≤ a) (ha : a < 340282366920938463463374607431768211456) :
    IntKind.u64.wrap (lo64 a - lo64 b) = lo64 (a - b) ∧ ∃ H : Nat, IntKind.u64.wrap (hi64 a - hi64 b) = (H : Int) ∧
      ((a % 18446744073709551616 < b % 18446744073709551616 ∧ IntKind.u64.wrap ((H : Int) - 1) = hi64 (a - b)) ∨ (b % 18446744073709551616 ≤ a % 18446744073709551616 ∧ (H : Int) = hi64 (a - b))) := by
  unfold hi64 lo64
  simp only [IntKind.wrap_u64]
  refine ⟨by omega, a / 18446744073709551616 - b / 18446744073709551616, by omega, by omega⟩
theorem rminus (a b : Nat) (h : b ≤ a) (ha : a < 340282366920938463463374607431768211456) (w : World) :
    Calls Tryz.prog 100 #[.agg #[.int .u64 (hi64 a), .int .u64 (lo64 a)], .agg #[.int .u64 (hi64 b), .int .u64 (lo64 b)]] w fun e w' => e = .returned (.agg #[.int .u64 (hi64 (a - b)), .int .u64 (lo64 (a - b))]) ∧ Below w.heap.size w w' := by
  obtain ⟨e1, H, e2, hH⟩ := minus_parts h ha
  clear h ha
  rcases hH with ⟨h1, e3⟩ | ⟨h1, e3⟩
  · have T : decide (lo64 a < lo64 b) = true := by unfold lo64; simp <;> omega
    clear h1
    go_enter Tryz.func100, Tryz.ntmps100
    go_wp2_with fail
    refine bodyPost_ret (v := .agg #[.int .u64 (hi64 (a - b)), .int .u64 (lo64 (a - b))]) (by simp [results, Tryz.results100, go_sem, *]) rfl ⟨rfl, ?_⟩
    (repeat' (first | assumption | exact Below.refl _ _ | exact Below.size (by assumption) | (refine Below.setCell ?_ ?_ _) | (refine Below.alloc ?_ ?_ _) | (refine Below.drew ?_) | (refine below_drewN ?_ _) | (refine Below.trans ?_ (Below.mono ‹Below _ _ _› ?_)) | omega | (simp; done) | (simp; omega) | (simp at *; omega)))
  · have T : decide (lo64 a < lo64 b) = false := by unfold lo64; simp <;> omega
    rw [← e3]
    clear h1 e3
    go_enter Tryz.func100, Tryz.ntmps100
    go_wp2_with fail
    refine bodyPost_ret (v := .agg #[.int .u64 (H : Int), .int .u64 (lo64 (a - b))]) (by simp [results, Tryz.results100, go_sem, *]) rfl ⟨rfl, ?_⟩
    (repeat' (first | assumption | exact Below.refl _ _ | exact Below.size (by assumption) | (refine Below.setCell ?_ ?_ _) | (refine Below.alloc ?_ ?_ _) | (refine Below.drew ?_) | (refine below_drewN ?_ _) | (refine Below.trans ?_ (Below.mono ‹Below _ _ _› ?_)) | omega | (simp; done) | (simp; omega) | (simp at *; omega)))

theorem shift_parts (a c : Nat) (hc : c ≤ 1) : IntKind.u64.wrap (IntKind.u64.wrap (hi64 a * 2) + lo64 a / 9223372036854775808) = hi64 ((2 * a + c) % 340282366920938463463374607431768211456) ∧
    IntKind.u64.wrap (IntKind.u64.wrap (lo64 a * 2) + (c : Int)) = lo64 ((2 * a + c) % 340282366920938463463374607431768211456) := by
  unfold hi64 lo64
  simp only [IntKind.wrap_u64]
  constructor <;> omega
theorem rshift (a c : Nat) (hc : c ≤ 1) (w : World) :
    Calls Tryz.prog 104 #[.agg #[.int .u64 (hi64 a), .int .u64 (lo64 a)], .int .u64 (c : Int)] w fun e w' => e = .returned (.agg #[.int .u64 (hi64 ((2 * a + c) % 340282366920938463463374607431768211456)), .int .u64 (lo64 ((2 * a + c) % 340282366920938463463374607431768211456))]) ∧ Below w.heap.size w w' := by
  obtain ⟨e1, e2⟩ := shift_parts a c hc
  rw [← e1, ← e2]
  clear e1 e2 hc
  go_enter Tryz.func104, Tryz.ntmps104
  go_wp2_with fail
  refine bodyPost_ret (v := .agg #[.int .u64 (IntKind.u64.wrap (IntKind.u64.wrap (hi64 a * 2) + lo64 a / 9223372036854775808)), .int .u64 (IntKind.u64.wrap (IntKind.u64.wrap (lo64 a * 2) + (c : Int)))]) (by simp [results, Tryz.results104, go_sem, *]) rfl ⟨rfl, ?_⟩
  (repeat' (first | assumption | exact Below.refl _ _ | exact Below.size (by assumption) | (refine Below.setCell ?_ ?_ _) | (refine Below.alloc ?_ ?_ _) | (refine Below.drew ?_) | (refine below_drewN ?_ _) | (refine Below.trans ?_ (Below.mono ‹Below _ _ _› ?_)) | omega | (simp; done) | (simp; omega) | (simp at *; omega)))

theorem rmade (n : Nat) (w : World) :
    Calls Tryz.prog 80 #[.agg #[.int .u64 (hi64 n), .int .u64 (lo64 n)], .bool false] w fun e w' => e = .returned (.agg #[.int .u64 (hi64 n), .int .u64 (lo64 n), .bool false]) ∧ Below w.heap.size w w' := by
  go_enter Tryz.func80, Tryz.ntmps80
  go_wp2_with fail
  go_region
  all_goals (go_wp2_with fail)
  all_goals (refine bodyPost_ret (v := .agg #[.int .u64 (hi64 n), .int .u64 (lo64 n), .bool false]) (by simp [results, Tryz.results80, go_sem, *]) rfl ⟨rfl, ?_⟩)
  all_goals ((repeat' (first | assumption | exact Below.refl _ _ | exact Below.size (by assumption) | (refine Below.setCell ?_ ?_ _) | (refine Below.alloc ?_ ?_ _) | (refine Below.drew ?_) | (refine below_drewN ?_ _) | (refine Below.trans ?_ (Below.mono ‹Below _ _ _› ?_)) | omega | (simp; done) | (simp; omega) | (simp at *; omega))))

theorem mul_lo {x y x1 x0 y1 y0 low mid other : Nat} (hx : x = x1 * 4294967296 + x0) (hy : y = y1 * 4294967296 + y0) (hl : low = x0 * y0) (hm : mid = x1 * y0 + low / 4294967296) (ho : other = x0 * y1 + mid % 4294967296) :
    other * 4294967296 % 18446744073709551616 + low % 4294967296 = x * y % 18446744073709551616 := by
  have e : x * y = x1 * y1 * 18446744073709551616 + (x1 * y0 + x0 * y1) * 4294967296 + x0 * y0 := by
    rw [hx, hy, Nat.add_mul, Nat.mul_add, Nat.mul_add, Nat.mul_mul_mul_comm x1, Nat.mul_assoc x1 4294967296 y0, Nat.mul_comm 4294967296 y0, ← Nat.mul_assoc x1 y0, ← Nat.mul_assoc x0 y1, Nat.add_mul]
    omega
  rw [e]
  generalize x1 * y1 = A at *
  generalize x1 * y0 = B at *
  generalize x0 * y1 = C at *
  generalize x0 * y0 = D at *
  omega
theorem mul_hi {x y : Nat} (hx : x < 18446744073709551616) (hy : y < 18446744073709551616) : ∃ low mid other : Nat, low = x % 4294967296 * (y % 4294967296) ∧ mid = x / 4294967296 * (y % 4294967296) + low / 4294967296 ∧ other = x % 4294967296 * (y / 4294967296) + mid % 4294967296 ∧
    low < 18446744073709551616 ∧ mid < 18446744073709551616 ∧ other < 18446744073709551616 ∧ x / 4294967296 * (y % 4294967296) < 18446744073709551616 ∧ x % 4294967296 * (y / 4294967296) < 18446744073709551616 ∧ x / 4294967296 * (y / 4294967296) < 18446744073709551616 ∧
    x / 4294967296 * (y / 4294967296) + mid / 4294967296 < 18446744073709551616 ∧ x / 4294967296 * (y / 4294967296) + mid / 4294967296 + other / 4294967296 < 18446744073709551616 ∧
    x / 4294967296 * (y / 4294967296) + mid / 4294967296 + other / 4294967296 = x * y / 18446744073709551616 ∧ other * 4294967296 % 18446744073709551616 + low % 4294967296 = x * y % 18446744073709551616 := by
  obtain ⟨bd, bt, bw, hhi⟩ := Lib.mul64_hi x y hx hy
  have ba := Lib.half_mul_le (a := x / 4294967296) (b := y / 4294967296) (by omega) (by omega)
  have bb := Lib.half_mul_le (a := x / 4294967296) (b := y % 4294967296) (by omega) (by omega)
  have bc := Lib.half_mul_le (a := x % 4294967296) (b := y / 4294967296) (by omega) (by omega)
  obtain ⟨low, hl⟩ : ∃ z, z = x % 4294967296 * (y % 4294967296) := ⟨_, rfl⟩
  obtain ⟨mid, hm⟩ : ∃ z, z = x / 4294967296 * (y % 4294967296) + low / 4294967296 := ⟨_, rfl⟩
  obtain ⟨other, ho⟩ : ∃ z, z = x % 4294967296 * (y / 4294967296) + mid % 4294967296 := ⟨_, rfl⟩
  rw [← hl] at bd bt bw hhi
  rw [← hm] at bt bw hhi
  rw [Nat.add_comm (mid % 4294967296), ← ho] at bw hhi
  refine ⟨low, mid, other, hl, hm, ho, ?_, ?_, ?_, ?_, ?_, ?_, ?_, ?_, ?_, mul_lo (by omega) (by omega) hl hm ho⟩
  all_goals omega
theorem rmul (x y : Nat) (hx : x < 18446744073709551616) (hy : y < 18446744073709551616) (w : World) :
    Calls Tryz.prog 81 #[.int .u64 (x : Int), .int .u64 (y : Int)] w fun e w' => e = .returned (.agg #[.int .u64 (hi64 (x * y)), .int .u64 (lo64 (x * y))]) ∧ Below w.heap.size w w' := by
  obtain ⟨low, mid, other, hl, hm, ho, b1, b2, b3, b4, b5, b6, b7, b8, b9, b10⟩ := mul_hi hx hy
  have hh : hi64 (x * y) = ((x * y / 18446744073709551616 : Nat) : Int) := rfl
  have hlo : lo64 (x * y) = ((x * y % 18446744073709551616 : Nat) : Int) := rfl
  rw [← b9] at hh
  rw [← b10] at hlo
  obtain ⟨x1, hx1⟩ : ∃ z, z = x / 4294967296 := ⟨_, rfl⟩
  obtain ⟨x0, hx0⟩ : ∃ z, z = x % 4294967296 := ⟨_, rfl⟩
  obtain ⟨y1, hy1⟩ : ∃ z, z = y / 4294967296 := ⟨_, rfl⟩
  obtain ⟨y0, hy0⟩ : ∃ z, z = y % 4294967296 := ⟨_, rfl⟩
  have f1 : (x : Int) / 4294967296 = (x1 : Int) := by omega
  have f2 : bits .and .u64 (x : Int) 4294967295 = (x0 : Int) := by rw [Half.maskN x hx, hx0]
  have f3 : (y : Int) / 4294967296 = (y1 : Int) := by omega
  have f4 : bits .and .u64 (y : Int) 4294967295 = (y0 : Int) := by rw [Half.maskN y hy, hy0]
  rw [← hx1] at hm b4
  rw [← hy1] at ho b5
  rw [← hx1, ← hy1] at b6 b7 b8 hh
  rw [← hx0, ← hy0] at hl
  rw [← hy0] at hm b4
  rw [← hx0] at ho b5
  have f5 : IntKind.u64.wrap ((x0 : Int) * (y0 : Int)) = (low : Int) := by rw [Half.mulN, ← hl]; exact Half.wrapN _ b1
  obtain ⟨l1, hl1⟩ : ∃ z, z = low / 4294967296 := ⟨_, rfl⟩
  have f6 : (low : Int) / 4294967296 = (l1 : Int) := by omega
  obtain ⟨B, hB⟩ : ∃ z, z = x1 * y0 := ⟨_, rfl⟩
  have f7 : IntKind.u64.wrap ((x1 : Int) * (y0 : Int)) = (B : Int) := by rw [Half.mulN, hB]; exact Half.wrapN _ b4
  have f8 : IntKind.u64.wrap ((B : Int) + (l1 : Int)) = (mid : Int) := by rw [Half.addN, hB, hl1, ← hm]; exact Half.wrapN _ b2
  obtain ⟨C, hC⟩ : ∃ z, z = x0 * y1 := ⟨_, rfl⟩
  have f9 : IntKind.u64.wrap ((x0 : Int) * (y1 : Int)) = (C : Int) := by rw [Half.mulN, hC]; exact Half.wrapN _ b5
  obtain ⟨m0, hm0⟩ : ∃ z, z = mid % 4294967296 := ⟨_, rfl⟩
  obtain ⟨m1, hm1⟩ : ∃ z, z = mid / 4294967296 := ⟨_, rfl⟩
  have f10 : bits .and .u64 (mid : Int) 4294967295 = (m0 : Int) := by rw [Half.maskN mid b2, hm0]
  have f11 : IntKind.u64.wrap ((C : Int) + (m0 : Int)) = (other : Int) := by rw [Half.addN, hC, hm0, ← ho]; exact Half.wrapN _ b3
  obtain ⟨A, hA⟩ : ∃ z, z = x1 * y1 := ⟨_, rfl⟩
  have f12 : IntKind.u64.wrap ((x1 : Int) * (y1 : Int)) = (A : Int) := by rw [Half.mulN, hA]; exact Half.wrapN _ b6
  have f13 : (mid : Int) / 4294967296 = (m1 : Int) := by omega
  rw [← hm1, ← hA] at b7
  rw [← hm1, ← hA] at b8 hh
  obtain ⟨A1, hA1⟩ : ∃ z, z = A + m1 := ⟨_, rfl⟩
  have f14 : IntKind.u64.wrap ((A : Int) + (m1 : Int)) = (A1 : Int) := by rw [Half.addN, hA1]; exact Half.wrapN _ b7
  obtain ⟨o1, ho1⟩ : ∃ z, z = other / 4294967296 := ⟨_, rfl⟩
  have f15 : (other : Int) / 4294967296 = (o1 : Int) := by omega
  rw [← hA1, ← ho1] at b8 hh
  have f16 : IntKind.u64.wrap ((A1 : Int) + (o1 : Int)) = hi64 (x * y) := by rw [hh, Half.addN]; exact Half.wrapN _ b8
  obtain ⟨oo, hoo⟩ : ∃ z, z = other * 4294967296 % 18446744073709551616 := ⟨_, rfl⟩
  have f17 : IntKind.u64.wrap ((other : Int) * 4294967296) = (oo : Int) := by rw [IntKind.wrap_u64]; omega
  obtain ⟨l0, hl0⟩ : ∃ z, z = low % 4294967296 := ⟨_, rfl⟩
  have f18 : bits .and .u64 (low : Int) 4294967295 = (l0 : Int) := by rw [Half.maskN low b1, hl0]
  rw [← hoo, ← hl0] at hlo
  have f19 : IntKind.u64.wrap ((oo : Int) + (l0 : Int)) = lo64 (x * y) := by rw [hlo, Half.addN]; exact Half.wrapN _ (by omega)
  clear b1 b2 b3 b4 b5 b6 b7 b8 b9 b10 hl hm ho hh hlo hx1 hx0 hy1 hy0 hl1 hB hC hm0 hm1 hA hA1 ho1 hoo hl0 hx hy
  go_enter Tryz.func81, Tryz.ntmps81
  go_wp2_with fail
  refine bodyPost_ret (v := .agg #[.int .u64 (hi64 (x * y)), .int .u64 (lo64 (x * y))]) (by simp [results, Tryz.results81, go_sem, *]) rfl ⟨rfl, ?_⟩
  (repeat' (first | assumption | exact Below.refl _ _ | exact Below.size (by assumption) | (refine Below.setCell ?_ ?_ _) | (refine Below.alloc ?_ ?_ _) | (refine Below.drew ?_) | (refine below_drewN ?_ _) | (refine Below.trans ?_ (Below.mono ‹Below _ _ _› ?_)) | omega | (simp; done) | (simp; omega) | (simp at *; omega)))

theorem rofint (n : Nat) (h : n < 9223372036854775808) (w : World) :
    Calls Tryz.prog 97 #[.int .i64 (n : Int)] w fun e w' => e = .returned (.agg #[.int .u64 (hi64 n), .int .u64 (lo64 n), .bool false]) ∧ Below w.heap.size w w' := by
  have S := fun w => rsize n (by omega) (by omega) w
  have e1 : (Int.natAbs (n : Int) : Int) = lo64 n := by unfold lo64; omega
  simp only [e1] at S
  have S1 := Lib.hid S
  have M := fun w => rmade n w
  have e2 : hi64 n = 0 := by unfold hi64; omega
  rw [e2] at M
  rw [e2]
  have S2 := Lib.hid M
  have T : decide ((n : Int) < 0) = false := by simp
  clear S M e1 e2 h
  go_enter Tryz.func97, Tryz.ntmps97
  go_wp2_with (first | (go_at_call 82; (with_reducible refine (S1.out _).mono ?_); rintro e w' ⟨rfl, rfl⟩) | (go_at_call 80; (with_reducible refine (S2.out _).mono ?_); rintro e w1 ⟨rfl, hb1⟩; obtain ⟨hc1, hf1⟩ := bcell hb1; have hz1 := hb1.size; (try simp at hz1); (try simp only [heap_drew, World.heap_drewN] at hz1); (try simp only [heap_drew, World.heap_drewN] at hc1); (try simp only [heap_drew, World.heap_drewN] at hf1); (try have hs1 := Nat.lt_of_succ_le hz1); (try have hs2 := Nat.lt_of_succ_lt hs1); (try have y0 : w.heap.size < w1.heap.size := by omega); (try have y1 : w.heap.size + 1 < w1.heap.size := by omega); (try have y2 : w.heap.size + 2 < w1.heap.size := by omega)))
  refine bodyPost_ret (v := .agg #[.int .u64 0, .int .u64 (lo64 n), .bool false]) (by simp [results, Tryz.results97, go_sem, *]) rfl ⟨rfl, ?_⟩
  (repeat' (first | assumption | exact Below.refl _ _ | exact Below.size (by assumption) | (refine Below.setCell ?_ ?_ _) | (refine Below.alloc ?_ ?_ _) | (refine Below.drew ?_) | (refine below_drewN ?_ _) | (refine Below.trans ?_ (Below.mono ‹Below _ _ _› ?_)) | omega | (simp; done) | (simp; omega) | (simp at *; omega)))
theorem rtimes (a b : Nat) (ha : a < 9223372036854775808) (hb : b < 9223372036854775808) (w : World) :
    Calls Tryz.prog 52 #[.int .i64 (a : Int), .int .i64 (b : Int)] w fun e w' => e = .returned (.agg #[.int .u64 (hi64 (a * b)), .int .u64 (lo64 (a * b)), .bool false]) ∧ Below w.heap.size w w' := by
  have S1 := fun w => rsize a (by omega) (by omega) w
  have S2 := fun w => rsize b (by omega) (by omega) w
  have e1 : (Int.natAbs (a : Int) : Int) = (a : Int) := by omega
  have e2 : (Int.natAbs (b : Int) : Int) = (b : Int) := by omega
  simp only [e1] at S1
  simp only [e2] at S2
  have H1 := Lib.hid S1
  have H2 := Lib.hid S2
  have H3 := Lib.hid fun w => rmul a b (by omega) (by omega) w
  have H4 := Lib.hid fun w => rmade (a * b) w
  have T : decide ((a : Int) < 0) = false := by simp
  have T' : decide ((b : Int) < 0) = false := by simp
  clear S1 S2 e1 e2 ha hb
  go_enter Tryz.func52, Tryz.ntmps52
  go_wp2_with (first | (go_at_call 82; (with_reducible refine (H1.out _).mono ?_); rintro e w' ⟨rfl, rfl⟩) | (go_at_call 82; (with_reducible refine (H2.out _).mono ?_); rintro e w' ⟨rfl, rfl⟩) | (go_at_call 81; (with_reducible refine (H3.out _).mono ?_); rintro e w1 ⟨rfl, hb1⟩; obtain ⟨hc1, hf1⟩ := bcell hb1; have hz1 := hb1.size; (try simp at hz1); (try simp only [heap_drew, World.heap_drewN] at hz1); (try simp only [heap_drew, World.heap_drewN] at hc1); (try simp only [heap_drew, World.heap_drewN] at hf1); (try have hs1 := Nat.lt_of_succ_le hz1); (try have hs2 := Nat.lt_of_succ_lt hs1); (try have y0 : w.heap.size < w1.heap.size := by omega); (try have y1 : w.heap.size + 1 < w1.heap.size := by omega); (try have y2 : w.heap.size + 2 < w1.heap.size := by omega)) | (go_at_call 80; (with_reducible refine (H4.out _).mono ?_); rintro e w1 ⟨rfl, hb1⟩; obtain ⟨hc1, hf1⟩ := bcell hb1; have hz1 := hb1.size; (try simp at hz1); (try simp only [heap_drew, World.heap_drewN] at hz1); (try simp only [heap_drew, World.heap_drewN] at hc1); (try simp only [heap_drew, World.heap_drewN] at hf1); (try have hs1 := Nat.lt_of_succ_le hz1); (try have hs2 := Nat.lt_of_succ_lt hs1); (try have y0 : w.heap.size < w1.heap.size := by omega); (try have y1 : w.heap.size + 1 < w1.heap.size := by omega); (try have y2 : w.heap.size + 2 < w1.heap.size := by omega)))
  refine bodyPost_ret (v := .agg #[.int .u64 (hi64 (a * b)), .int .u64 (lo64 (a * b)), .bool false]) (by simp [results, Tryz.results52, go_sem, *]) rfl ⟨rfl, ?_⟩
  (repeat' (first | assumption | exact Below.refl _ _ | exact Below.size (by assumption) | (refine Below.setCell ?_ ?_ _) | (refine Below.alloc ?_ ?_ _) | (refine Below.drew ?_) | (refine below_drewN ?_ _) | (refine Below.trans ?_ (Below.mono ‹Below _ _ _› ?_)) | omega | (simp; done) | (simp; omega) | (simp at *; omega)))
/-- A number that fits, as an int. -/
theorem rint (n : Nat) (h : n < 9223372036854775808) (w : World) :
    Calls Tryz.prog 95 #[.agg #[.int .u64 (hi64 n), .int .u64 (lo64 n), .bool false]] w fun e w' => e = .returned (.tuple #[.int .i64 (n : Int), .bool true]) ∧ Below w.heap.size w w' := by
  have e1 : hi64 n = 0 := by unfold hi64; omega
  have e2 : lo64 n = (n : Int) := by unfold lo64; omega
  rw [e1, e2]
  have e3 : IntKind.i64.wrap (n : Int) = (n : Int) := by rw [IntKind.wrap_i64]; omega
  have T : decide ((n : Int) < 9223372036854775808) = true := by simp <;> omega
  clear e1 e2 h
  go_enter Tryz.func95, Tryz.ntmps95
  go_wp2_with fail
  go_region
  all_goals (go_wp2_with fail)
  all_goals (go_ret2; refine ⟨rfl, ?_⟩; (repeat' (first | assumption | exact Below.refl _ _ | exact Below.size (by assumption) | (refine Below.setCell ?_ ?_ _) | (refine Below.alloc ?_ ?_ _) | (refine Below.drew ?_) | (refine below_drewN ?_ _) | (refine Below.trans ?_ (Below.mono ‹Below _ _ _› ?_)) | omega | (simp; done) | (simp; omega) | (simp at *; omega))))
end Go.Proofs.YtpeelnjkppdkbaaGreat

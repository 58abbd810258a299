/- Merged texts of these proofs: WideTwo, Piece, PieceTwo, RefA, Cat, Root2, Circ, Circle, RefB, RefC, Val, Floor, Sec, Cap, Area, RefD, Idx, Inv, Least, Most, Ends, RefM, RefN, Invs. -/
import Derived.Test.YtfgakaielfekoaaGreatDoorWide
import Derived.RegionCalls
import Derived.RegionTactic
import Derived.Deep.RegionWith
import Derived.Test.YtfgakaielfekoaaGreatDoorTabTwo
import Derived.LoopTactic
import Derived.Test.YtfgakaielfekoaaGreatDoorTab
import Derived.Test.YtfgakaielfekoaaGreatDoorName
import Derived.Maps.AppendAt
import Derived.Deep.AppendLies
import Derived.Laws.OwnMore
import Derived.OwnWalk
import Derived.Deep.CutRange
import Derived.Deep.Cut
import Derived.Test.YtfgakaielfekoaaGreatDoorCurve
import Derived.BigQuiet
import Derived.Test.YtfgakaielfekoaaGreatDoorMgB
import Derived.StillTailTactics
namespace Go.Proofs.YtfgakaielfekoaaGreatDoor
open Go.RowKit
set_option linter.unusedVariables false
set_option linter.unusedSimpArgs false

theorem wscale (a b d lo hi : Nat) (ha : a < 9223372036854775808) (hb : b < 9223372036854775808) (hd : d < 9223372036854775808) (hz : a * b / 18446744073709551616 < d) (hlo : lo = a * b / d) (hhi : hi = (a * b + d - 1) / d) (bl : lo < 9223372036854775808) (bh : hi < 9223372036854775808) (w : World) :
    Calls Tryz.prog 160 #[.int .i64 (a : Int), .int .i64 (b : Int), .int .i64 (d : Int)] w fun e w' => e = .returned (.tuple #[.int .i64 (lo : Int), .int .i64 (hi : Int), .int .i64 0]) ∧ Below w.heap.size w w' := by
  have t1 : ((d : Int) == 0) = false := by simp; omega
  have c1 := fun w => wtimes a b ha hb w
  have c2 := fun w => wquot_down (a * b) d lo hz hd hlo bl w
  have c3 := fun w => wquot_up (a * b) d hi hz hd hhi bh w
  have C1 := Lib.hid c1
  have C2 := Lib.hid c2
  have C3 := Lib.hid c3
  clear c1 c2 c3 ha hb hd hz hlo hhi bl bh
  go_enter Tryz.func160, Tryz.ntmps160
  go_wp2_with (first | (go_at_call 195; (with_reducible refine (C1.out _).mono ?_); rintro e w1 ⟨rfl, hb1⟩; obtain ⟨hc1, hf1⟩ := bcell hb1; have hz1 := hb1.size; (try simp at hz1); (try simp only [heap_drew, World.heap_drewN] at hz1); (try simp only [heap_drew, World.heap_drewN] at hc1); (try simp only [heap_drew, World.heap_drewN] at hf1); (try have hs1 := Nat.lt_of_succ_le hz1); (try have hs2 := Nat.lt_of_succ_lt hs1); (try have y0 : w.heap.size < w1.heap.size := by omega); (try have y1 : w.heap.size + 1 < w1.heap.size := by omega); (try have y2 : w.heap.size + 2 < w1.heap.size := by omega)) | (go_at_call 196; (with_reducible refine (C2.out _).mono ?_); rintro e w1 ⟨rfl, hb1⟩; obtain ⟨hc1, hf1⟩ := bcell hb1; have hz1 := hb1.size; (try simp at hz1); (try simp only [heap_drew, World.heap_drewN] at hz1); (try simp only [heap_drew, World.heap_drewN] at hc1); (try simp only [heap_drew, World.heap_drewN] at hf1); (try have hs1 := Nat.lt_of_succ_le hz1); (try have hs2 := Nat.lt_of_succ_lt hs1); (try have y0 : w.heap.size < w1.heap.size := by omega); (try have y1 : w.heap.size + 1 < w1.heap.size := by omega); (try have y2 : w.heap.size + 2 < w1.heap.size := by omega)) | (go_at_call 196; (with_reducible refine (C3.out _).mono ?_); rintro e w1 ⟨rfl, hb1⟩; obtain ⟨hc1, hf1⟩ := bcell hb1; have hz1 := hb1.size; (try simp at hz1); (try simp only [heap_drew, World.heap_drewN] at hz1); (try simp only [heap_drew, World.heap_drewN] at hc1); (try simp only [heap_drew, World.heap_drewN] at hf1); (try have hs1 := Nat.lt_of_succ_le hz1); (try have hs2 := Nat.lt_of_succ_lt hs1); (try have y0 : w.heap.size < w1.heap.size := by omega); (try have y1 : w.heap.size + 1 < w1.heap.size := by omega); (try have y2 : w.heap.size + 2 < w1.heap.size := by omega)))
  go_ret3
  refine ⟨rfl, ?_⟩
  (repeat' (first | assumption | exact Below.refl _ _ | exact Below.size (by assumption) | (refine Below.setCell ?_ ?_ _) | (refine Below.alloc ?_ ?_ _) | (refine Below.drew ?_) | (refine below_drewN ?_ _) | (refine Below.trans ?_ (Below.mono ‹Below _ _ _› ?_)) | omega | (simp; done) | (simp; omega) | (simp at *; omega)))

end Go.Proofs.YtfgakaielfekoaaGreatDoor

namespace Go.Proofs.YtfgakaielfekoaaGreatDoor
open Go.RowKit
set_option linter.unusedVariables false
set_option linter.unusedSimpArgs false

/-- Where the search ends: all knots before k are below x, all from k on are not. -/
def SearchAt (n : Nat) (X : Nat → Int) (x : Int) (k : Nat) : Prop := k ≤ n ∧ (∀ j, j < k → X j < x) ∧ (∀ j, k ≤ j → j < n → x ≤ X j)

theorem SearchAt.below {n k m : Nat} {X : Nat → Int} {x : Int} (h : SearchAt n X x k) (hm : m < n) (hx : X m < x) : m < k := by
  apply Nat.lt_of_not_le
  intro hk
  have := h.2.2 m hk hm
  omega
theorem SearchAt.above {n k m : Nat} {X : Nat → Int} {x : Int} (h : SearchAt n X x k) (hx : x ≤ X m) : k ≤ m := by
  apply Nat.le_of_not_lt
  intro hk
  have := h.2.1 m hk
  omega

end Go.Proofs.YtfgakaielfekoaaGreatDoor

namespace Go.Proofs.YtfgakaielfekoaaGreatDoor
open Go.RowKit
set_option linter.unusedVariables false
set_option linter.unusedSimpArgs false

end Go.Proofs.YtfgakaielfekoaaGreatDoor

namespace Go.Proofs.YtfgakaielfekoaaGreatDoor
open Go.RowKit
set_option linter.unusedVariables false
set_option linter.unusedSimpArgs false

theorem rless (a b : Nat) (f : Bool) (hf : f = decide (a < b)) (w : World) :
    Calls Tryz.prog 221 #[.agg #[.int .u64 (hi64 a), .int .u64 (lo64 a)], .agg #[.int .u64 (hi64 b), .int .u64 (lo64 b)]] w fun e w' => e = .returned (.bool f) ∧ Below w.heap.size w w' := by
  rcases Nat.lt_trichotomy (a / 18446744073709551616) (b / 18446744073709551616) with hc | hc | hc
  · obtain rfl : f = true := by rw [hf]; exact decide_eq_true (by omega)
    have T1 : decide (hi64 a < hi64 b) = true := by unfold hi64; simp <;> omega
    clear hf hc
    go_enter Tryz.func221, Tryz.ntmps221
    go_wp2_with fail
    go_ret
    refine ⟨rfl, ?_⟩
    (repeat' (first | assumption | exact Below.refl _ _ | exact Below.size (by assumption) | (refine Below.setCell ?_ ?_ _) | (refine Below.alloc ?_ ?_ _) | (refine Below.drew ?_) | (refine below_drewN ?_ _) | (refine Below.trans ?_ (Below.mono ‹Below _ _ _› ?_)) | omega | (simp; done) | (simp; omega) | (simp at *; omega)))
  · have T1 : decide (hi64 a < hi64 b) = false := by unfold hi64; simp <;> omega
    have T2 : (hi64 a == hi64 b) = true := by unfold hi64; simp <;> omega
    by_cases hd : a % 18446744073709551616 < b % 18446744073709551616
    · obtain rfl : f = true := by rw [hf]; exact decide_eq_true (by omega)
      have T3 : decide (lo64 a < lo64 b) = true := by unfold lo64; simp <;> omega
      clear hf hc hd
      go_enter Tryz.func221, Tryz.ntmps221
      go_wp2_with fail
      go_ret
      refine ⟨rfl, ?_⟩
      (repeat' (first | assumption | exact Below.refl _ _ | exact Below.size (by assumption) | (refine Below.setCell ?_ ?_ _) | (refine Below.alloc ?_ ?_ _) | (refine Below.drew ?_) | (refine below_drewN ?_ _) | (refine Below.trans ?_ (Below.mono ‹Below _ _ _› ?_)) | omega | (simp; done) | (simp; omega) | (simp at *; omega)))
    · obtain rfl : f = false := by rw [hf]; exact decide_eq_false (by omega)
      have T3 : decide (lo64 a < lo64 b) = false := by unfold lo64; simp <;> omega
      clear hf hc hd
      go_enter Tryz.func221, Tryz.ntmps221
      go_wp2_with fail
      go_ret
      refine ⟨rfl, ?_⟩
      (repeat' (first | assumption | exact Below.refl _ _ | exact Below.size (by assumption) | (refine Below.setCell ?_ ?_ _) | (refine Below.alloc ?_ ?_ _) | (refine Below.drew ?_) | (refine below_drewN ?_ _) | (refine Below.trans ?_ (Below.mono ‹Below _ _ _› ?_)) | omega | (simp; done) | (simp; omega) | (simp at *; omega)))
  · obtain rfl : f = false := by rw [hf]; exact decide_eq_false (by omega)
    have T1 : decide (hi64 a < hi64 b) = false := by unfold hi64; simp <;> omega
    have T2 : (hi64 a == hi64 b) = false := by unfold hi64; simp <;> omega
    clear hf hc
    go_enter Tryz.func221, Tryz.ntmps221
    go_wp2_with fail
    go_ret
    refine ⟨rfl, ?_⟩
    (repeat' (first | assumption | exact Below.refl _ _ | exact Below.size (by assumption) | (refine Below.setCell ?_ ?_ _) | (refine Below.alloc ?_ ?_ _) | (refine Below.drew ?_) | (refine below_drewN ?_ _) | (refine Below.trans ?_ (Below.mono ‹Below _ _ _› ?_)) | omega | (simp; done) | (simp; omega) | (simp at *; omega)))

theorem minus_parts {a b : Nat} (h : b ≤ a) (ha : a < 340282366920938463463374607431768211456) :
    IntKind.u64.wrap (lo64 a - lo64 b) = lo64 (a - b) ∧ ∃ H : Nat, IntKind.u64.wrap (hi64 a - hi64 b) = (H : Int) ∧
      ((a % 18446744073709551616 < b % 18446744073709551616 ∧ IntKind.u64.wrap ((H : Int) - 1) = hi64 (a - b)) ∨ (b % 18446744073709551616 ≤ a % 18446744073709551616 ∧ (H : Int) = hi64 (a - b))) := by
  unfold hi64 lo64
  simp only [IntKind.wrap_u64]
  refine ⟨by omega, a / 18446744073709551616 - b / 18446744073709551616, by omega, by omega⟩
theorem rminus (a b : Nat) (h : b ≤ a) (ha : a < 340282366920938463463374607431768211456) (w : World) :
    Calls Tryz.prog 222 #[.agg #[.int .u64 (hi64 a), .int .u64 (lo64 a)], .agg #[.int .u64 (hi64 b), .int .u64 (lo64 b)]] w fun e w' => e = .returned (.agg #[.int .u64 (hi64 (a - b)), .int .u64 (lo64 (a - b))]) ∧ Below w.heap.size w w' := by
  obtain ⟨e1, H, e2, hH⟩ := minus_parts h ha
  clear h ha
  rcases hH with ⟨h1, e3⟩ | ⟨h1, e3⟩
  · have T : decide (lo64 a < lo64 b) = true := by unfold lo64; simp <;> omega
    clear h1
    go_enter Tryz.func222, Tryz.ntmps222
    go_wp2_with fail
    refine bodyPost_ret (v := .agg #[.int .u64 (hi64 (a - b)), .int .u64 (lo64 (a - b))]) (by simp [results, Tryz.results222, go_sem, *]) rfl ⟨rfl, ?_⟩
    (repeat' (first | assumption | exact Below.refl _ _ | exact Below.size (by assumption) | (refine Below.setCell ?_ ?_ _) | (refine Below.alloc ?_ ?_ _) | (refine Below.drew ?_) | (refine below_drewN ?_ _) | (refine Below.trans ?_ (Below.mono ‹Below _ _ _› ?_)) | omega | (simp; done) | (simp; omega) | (simp at *; omega)))
  · have T : decide (lo64 a < lo64 b) = false := by unfold lo64; simp <;> omega
    rw [← e3]
    clear h1 e3
    go_enter Tryz.func222, Tryz.ntmps222
    go_wp2_with fail
    refine bodyPost_ret (v := .agg #[.int .u64 (H : Int), .int .u64 (lo64 (a - b))]) (by simp [results, Tryz.results222, go_sem, *]) rfl ⟨rfl, ?_⟩
    (repeat' (first | assumption | exact Below.refl _ _ | exact Below.size (by assumption) | (refine Below.setCell ?_ ?_ _) | (refine Below.alloc ?_ ?_ _) | (refine Below.drew ?_) | (refine below_drewN ?_ _) | (refine Below.trans ?_ (Below.mono ‹Below _ _ _› ?_)) | omega | (simp; done) | (simp; omega) | (simp at *; omega)))

theorem shift_parts (a c : Nat) (hc : c ≤ 1) : IntKind.u64.wrap (IntKind.u64.wrap (hi64 a * 2) + lo64 a / 9223372036854775808) = hi64 ((2 * a + c) % 340282366920938463463374607431768211456) ∧
    IntKind.u64.wrap (IntKind.u64.wrap (lo64 a * 2) + (c : Int)) = lo64 ((2 * a + c) % 340282366920938463463374607431768211456) := by
  unfold hi64 lo64
  simp only [IntKind.wrap_u64]
  constructor <;> omega
theorem rshift (a c : Nat) (hc : c ≤ 1) (w : World) :
    Calls Tryz.prog 220 #[.agg #[.int .u64 (hi64 a), .int .u64 (lo64 a)], .int .u64 (c : Int)] w fun e w' => e = .returned (.agg #[.int .u64 (hi64 ((2 * a + c) % 340282366920938463463374607431768211456)), .int .u64 (lo64 ((2 * a + c) % 340282366920938463463374607431768211456))]) ∧ Below w.heap.size w w' := by
  obtain ⟨e1, e2⟩ := shift_parts a c hc
  rw [← e1, ← e2]
  clear e1 e2 hc
  go_enter Tryz.func220, Tryz.ntmps220
  go_wp2_with fail
  refine bodyPost_ret (v := .agg #[.int .u64 (IntKind.u64.wrap (IntKind.u64.wrap (hi64 a * 2) + lo64 a / 9223372036854775808)), .int .u64 (IntKind.u64.wrap (IntKind.u64.wrap (lo64 a * 2) + (c : Int)))]) (by simp [results, Tryz.results220, go_sem, *]) rfl ⟨rfl, ?_⟩
  (repeat' (first | assumption | exact Below.refl _ _ | exact Below.size (by assumption) | (refine Below.setCell ?_ ?_ _) | (refine Below.alloc ?_ ?_ _) | (refine Below.drew ?_) | (refine below_drewN ?_ _) | (refine Below.trans ?_ (Below.mono ‹Below _ _ _› ?_)) | omega | (simp; done) | (simp; omega) | (simp at *; omega)))

theorem rmade (n : Nat) (w : World) :
    Calls Tryz.prog 206 #[.agg #[.int .u64 (hi64 n), .int .u64 (lo64 n)], .bool false] w fun e w' => e = .returned (.agg #[.int .u64 (hi64 n), .int .u64 (lo64 n), .bool false]) ∧ Below w.heap.size w w' := by
  go_enter Tryz.func206, Tryz.ntmps206
  go_wp2_with fail
  go_region
  all_goals (go_wp2_with fail)
  all_goals (refine bodyPost_ret (v := .agg #[.int .u64 (hi64 n), .int .u64 (lo64 n), .bool false]) (by simp [results, Tryz.results206, go_sem, *]) rfl ⟨rfl, ?_⟩)
  all_goals ((repeat' (first | assumption | exact Below.refl _ _ | exact Below.size (by assumption) | (refine Below.setCell ?_ ?_ _) | (refine Below.alloc ?_ ?_ _) | (refine Below.drew ?_) | (refine below_drewN ?_ _) | (refine Below.trans ?_ (Below.mono ‹Below _ _ _› ?_)) | omega | (simp; done) | (simp; omega) | (simp at *; omega))))

theorem mul_lo {x y x1 x0 y1 y0 low mid other : Nat} (hx : x = x1 * 4294967296 + x0) (hy : y = y1 * 4294967296 + y0) (hl : low = x0 * y0) (hm : mid = x1 * y0 + low / 4294967296) (ho : other = x0 * y1 + mid % 4294967296) :
    other * 4294967296 % 18446744073709551616 + low % 4294967296 = x * y % 18446744073709551616 := by
  have e : x * y = x1 * y1 * 18446744073709551616 + (x1 * y0 + x0 * y1) * 4294967296 + x0 * y0 := by
    rw [hx, hy, Nat.add_mul, Nat.mul_add, Nat.mul_add, Nat.mul_mul_mul_comm x1, Nat.mul_assoc x1 4294967296 y0, Nat.mul_comm 4294967296 y0, ← Nat.mul_assoc x1 y0, ← Nat.mul_assoc x0 y1, Nat.add_mul]
    omega
  rw [e]
  generalize x1 * y1 = A at *
  generalize x1 * y0 = B at *
  generalize x0 * y1 = C at *
  generalize x0 * y0 = D at *
  omega
theorem mul_hi {x y : Nat} (hx : x < 18446744073709551616) (hy : y < 18446744073709551616) : ∃ low mid other : Nat, low = x % 4294967296 * (y % 4294967296) ∧ mid = x / 4294967296 * (y % 4294967296) + low / 4294967296 ∧ other = x % 4294967296 * (y / 4294967296) + mid % 4294967296 ∧
    low < 18446744073709551616 ∧ mid < 18446744073709551616 ∧ other < 18446744073709551616 ∧ x / 4294967296 * (y % 4294967296) < 18446744073709551616 ∧ x % 4294967296 * (y / 4294967296) < 18446744073709551616 ∧ x / 4294967296 * (y / 4294967296) < 18446744073709551616 ∧
    x / 4294967296 * (y / 4294967296) + mid / 4294967296 < 18446744073709551616 ∧ x / 4294967296 * (y / 4294967296) + mid / 4294967296 + other / 4294967296 < 18446744073709551616 ∧
    x / 4294967296 * (y / 4294967296) + mid / 4294967296 + other / 4294967296 = x * y / 18446744073709551616 ∧ other * 4294967296 % 18446744073709551616 + low % 4294967296 = x * y % 18446744073709551616 := by
  obtain ⟨bd, bt, bw, hhi⟩ := Lib.mul64_hi x y hx hy
  have ba := Lib.half_mul_le (a := x / 4294967296) (b := y / 4294967296) (by omega) (by omega)
  have bb := Lib.half_mul_le (a := x / 4294967296) (b := y % 4294967296) (by omega) (by omega)
  have bc := Lib.half_mul_le (a := x % 4294967296) (b := y / 4294967296) (by omega) (by omega)
  obtain ⟨low, hl⟩ : ∃ z, z = x % 4294967296 * (y % 4294967296) := ⟨_, rfl⟩
  obtain ⟨mid, hm⟩ : ∃ z, z = x / 4294967296 * (y % 4294967296) + low / 4294967296 := ⟨_, rfl⟩
  obtain ⟨other, ho⟩ : ∃ z, z = x % 4294967296 * (y / 4294967296) + mid % 4294967296 := ⟨_, rfl⟩
  rw [← hl] at bd bt bw hhi
  rw [← hm] at bt bw hhi
  rw [Nat.add_comm (mid % 4294967296), ← ho] at bw hhi
  refine ⟨low, mid, other, hl, hm, ho, ?_, ?_, ?_, ?_, ?_, ?_, ?_, ?_, ?_, mul_lo (by omega) (by omega) hl hm ho⟩
  all_goals omega
theorem rmul (x y : Nat) (hx : x < 18446744073709551616) (hy : y < 18446744073709551616) (w : World) :
    Calls Tryz.prog 207 #[.int .u64 (x : Int), .int .u64 (y : Int)] w fun e w' => e = .returned (.agg #[.int .u64 (hi64 (x * y)), .int .u64 (lo64 (x * y))]) ∧ Below w.heap.size w w' := by
  obtain ⟨low, mid, other, hl, hm, ho, b1, b2, b3, b4, b5, b6, b7, b8, b9, b10⟩ := mul_hi hx hy
  have hh : hi64 (x * y) = ((x * y / 18446744073709551616 : Nat) : Int) := rfl
  have hlo : lo64 (x * y) = ((x * y % 18446744073709551616 : Nat) : Int) := rfl
  rw [← b9] at hh
  rw [← b10] at hlo
  obtain ⟨x1, hx1⟩ : ∃ z, z = x / 4294967296 := ⟨_, rfl⟩
  obtain ⟨x0, hx0⟩ : ∃ z, z = x % 4294967296 := ⟨_, rfl⟩
  obtain ⟨y1, hy1⟩ : ∃ z, z = y / 4294967296 := ⟨_, rfl⟩
  obtain ⟨y0, hy0⟩ : ∃ z, z = y % 4294967296 := ⟨_, rfl⟩
  have f1 : (x : Int) / 4294967296 = (x1 : Int) := by omega
  have f2 : bits .and .u64 (x : Int) 4294967295 = (x0 : Int) := by rw [Half.maskN x hx, hx0]
  have f3 : (y : Int) / 4294967296 = (y1 : Int) := by omega
  have f4 : bits .and .u64 (y : Int) 4294967295 = (y0 : Int) := by rw [Half.maskN y hy, hy0]
  rw [← hx1] at hm b4
  rw [← hy1] at ho b5
  rw [← hx1, ← hy1] at b6 b7 b8 hh
  rw [← hx0, ← hy0] at hl
  rw [← hy0] at hm b4
  rw [← hx0] at ho b5
  have f5 : IntKind.u64.wrap ((x0 : Int) * (y0 : Int)) = (low : Int) := by rw [Half.mulN, ← hl]; exact Half.wrapN _ b1
  obtain ⟨l1, hl1⟩ : ∃ z, z = low / 4294967296 := ⟨_, rfl⟩
  have f6 : (low : Int) / 4294967296 = (l1 : Int) := by omega
  obtain ⟨B, hB⟩ : ∃ z, z = x1 * y0 := ⟨_, rfl⟩
  have f7 : IntKind.u64.wrap ((x1 : Int) * (y0 : Int)) = (B : Int) := by rw [Half.mulN, hB]; exact Half.wrapN _ b4
  have f8 : IntKind.u64.wrap ((B : Int) + (l1 : Int)) = (mid : Int) := by rw [Half.addN, hB, hl1, ← hm]; exact Half.wrapN _ b2
  obtain ⟨C, hC⟩ : ∃ z, z = x0 * y1 := ⟨_, rfl⟩
  have f9 : IntKind.u64.wrap ((x0 : Int) * (y1 : Int)) = (C : Int) := by rw [Half.mulN, hC]; exact Half.wrapN _ b5
  obtain ⟨m0, hm0⟩ : ∃ z, z = mid % 4294967296 := ⟨_, rfl⟩
  obtain ⟨m1, hm1⟩ : ∃ z, z = mid / 4294967296 := ⟨_, rfl⟩
  have f10 : bits .and .u64 (mid : Int) 4294967295 = (m0 : Int) := by rw [Half.maskN mid b2, hm0]
  have f11 : IntKind.u64.wrap ((C : Int) + (m0 : Int)) = (other : Int) := by rw [Half.addN, hC, hm0, ← ho]; exact Half.wrapN _ b3
  obtain ⟨A, hA⟩ : ∃ z, z = x1 * y1 := ⟨_, rfl⟩
  have f12 : IntKind.u64.wrap ((x1 : Int) * (y1 : Int)) = (A : Int) := by rw [Half.mulN, hA]; exact Half.wrapN _ b6
  have f13 : (mid : Int) / 4294967296 = (m1 : Int) := by omega
  rw [← hm1, ← hA] at b7
  rw [← hm1, ← hA] at b8 hh
  obtain ⟨A1, hA1⟩ : ∃ z, z = A + m1 := ⟨_, rfl⟩
  have f14 : IntKind.u64.wrap ((A : Int) + (m1 : Int)) = (A1 : Int) := by rw [Half.addN, hA1]; exact Half.wrapN _ b7
  obtain ⟨o1, ho1⟩ : ∃ z, z = other / 4294967296 := ⟨_, rfl⟩
  have f15 : (other : Int) / 4294967296 = (o1 : Int) := by omega
  rw [← hA1, ← ho1] at b8 hh
  have f16 : IntKind.u64.wrap ((A1 : Int) + (o1 : Int)) = hi64 (x * y) := by rw [hh, Half.addN]; exact Half.wrapN _ b8
  obtain ⟨oo, hoo⟩ : ∃ z, z = other * 4294967296 % 18446744073709551616 := ⟨_, rfl⟩
  have f17 : IntKind.u64.wrap ((other : Int) * 4294967296) = (oo : Int) := by rw [IntKind.wrap_u64]; omega
  obtain ⟨l0, hl0⟩ : ∃ z, z = low % 4294967296 := ⟨_, rfl⟩
  have f18 : bits .and .u64 (low : Int) 4294967295 = (l0 : Int) := by rw [Half.maskN low b1, hl0]
  rw [← hoo, ← hl0] at hlo
  have f19 : IntKind.u64.wrap ((oo : Int) + (l0 : Int)) = lo64 (x * y) := by rw [hlo, Half.addN]; exact Half.wrapN _ (by omega)
  clear b1 b2 b3 b4 b5 b6 b7 b8 b9 b10 hl hm ho hh hlo hx1 hx0 hy1 hy0 hl1 hB hC hm0 hm1 hA hA1 ho1 hoo hl0 hx hy
  go_enter Tryz.func207, Tryz.ntmps207
  go_wp2_with fail
  refine bodyPost_ret (v := .agg #[.int .u64 (hi64 (x * y)), .int .u64 (lo64 (x * y))]) (by simp [results, Tryz.results207, go_sem, *]) rfl ⟨rfl, ?_⟩
  (repeat' (first | assumption | exact Below.refl _ _ | exact Below.size (by assumption) | (refine Below.setCell ?_ ?_ _) | (refine Below.alloc ?_ ?_ _) | (refine Below.drew ?_) | (refine below_drewN ?_ _) | (refine Below.trans ?_ (Below.mono ‹Below _ _ _› ?_)) | omega | (simp; done) | (simp; omega) | (simp at *; omega)))

theorem rofint (n : Nat) (h : n < 9223372036854775808) (w : World) :
    Calls Tryz.prog 186 #[.int .i64 (n : Int)] w fun e w' => e = .returned (.agg #[.int .u64 (hi64 n), .int .u64 (lo64 n), .bool false]) ∧ Below w.heap.size w w' := by
  have S := fun w => rsize n (by omega) (by omega) w
  have e1 : (Int.natAbs (n : Int) : Int) = lo64 n := by unfold lo64; omega
  simp only [e1] at S
  have S1 := Lib.hid S
  have M := fun w => rmade n w
  have e2 : hi64 n = 0 := by unfold hi64; omega
  rw [e2] at M
  rw [e2]
  have S2 := Lib.hid M
  have T : decide ((n : Int) < 0) = false := by simp
  clear S M e1 e2 h
  go_enter Tryz.func186, Tryz.ntmps186
  go_wp2_with (first | (go_at_call 208; (with_reducible refine (S1.out _).mono ?_); rintro e w' ⟨rfl, rfl⟩) | (go_at_call 206; (with_reducible refine (S2.out _).mono ?_); rintro e w1 ⟨rfl, hb1⟩; obtain ⟨hc1, hf1⟩ := bcell hb1; have hz1 := hb1.size; (try simp at hz1); (try simp only [heap_drew, World.heap_drewN] at hz1); (try simp only [heap_drew, World.heap_drewN] at hc1); (try simp only [heap_drew, World.heap_drewN] at hf1); (try have hs1 := Nat.lt_of_succ_le hz1); (try have hs2 := Nat.lt_of_succ_lt hs1); (try have y0 : w.heap.size < w1.heap.size := by omega); (try have y1 : w.heap.size + 1 < w1.heap.size := by omega); (try have y2 : w.heap.size + 2 < w1.heap.size := by omega)))
  refine bodyPost_ret (v := .agg #[.int .u64 0, .int .u64 (lo64 n), .bool false]) (by simp [results, Tryz.results186, go_sem, *]) rfl ⟨rfl, ?_⟩
  (repeat' (first | assumption | exact Below.refl _ _ | exact Below.size (by assumption) | (refine Below.setCell ?_ ?_ _) | (refine Below.alloc ?_ ?_ _) | (refine Below.drew ?_) | (refine below_drewN ?_ _) | (refine Below.trans ?_ (Below.mono ‹Below _ _ _› ?_)) | omega | (simp; done) | (simp; omega) | (simp at *; omega)))
theorem rtimes (a b : Nat) (ha : a < 9223372036854775808) (hb : b < 9223372036854775808) (w : World) :
    Calls Tryz.prog 185 #[.int .i64 (a : Int), .int .i64 (b : Int)] w fun e w' => e = .returned (.agg #[.int .u64 (hi64 (a * b)), .int .u64 (lo64 (a * b)), .bool false]) ∧ Below w.heap.size w w' := by
  have S1 := fun w => rsize a (by omega) (by omega) w
  have S2 := fun w => rsize b (by omega) (by omega) w
  have e1 : (Int.natAbs (a : Int) : Int) = (a : Int) := by omega
  have e2 : (Int.natAbs (b : Int) : Int) = (b : Int) := by omega
  simp only [e1] at S1
  simp only [e2] at S2
  have H1 := Lib.hid S1
  have H2 := Lib.hid S2
  have H3 := Lib.hid fun w => rmul a b (by omega) (by omega) w
  have H4 := Lib.hid fun w => rmade (a * b) w
  have T : decide ((a : Int) < 0) = false := by simp
  have T' : decide ((b : Int) < 0) = false := by simp
  clear S1 S2 e1 e2 ha hb
  go_enter Tryz.func185, Tryz.ntmps185
  go_wp2_with (first | (go_at_call 208; (with_reducible refine (H1.out _).mono ?_); rintro e w' ⟨rfl, rfl⟩) | (go_at_call 208; (with_reducible refine (H2.out _).mono ?_); rintro e w' ⟨rfl, rfl⟩) | (go_at_call 207; (with_reducible refine (H3.out _).mono ?_); rintro e w1 ⟨rfl, hb1⟩; obtain ⟨hc1, hf1⟩ := bcell hb1; have hz1 := hb1.size; (try simp at hz1); (try simp only [heap_drew, World.heap_drewN] at hz1); (try simp only [heap_drew, World.heap_drewN] at hc1); (try simp only [heap_drew, World.heap_drewN] at hf1); (try have hs1 := Nat.lt_of_succ_le hz1); (try have hs2 := Nat.lt_of_succ_lt hs1); (try have y0 : w.heap.size < w1.heap.size := by omega); (try have y1 : w.heap.size + 1 < w1.heap.size := by omega); (try have y2 : w.heap.size + 2 < w1.heap.size := by omega)) | (go_at_call 206; (with_reducible refine (H4.out _).mono ?_); rintro e w1 ⟨rfl, hb1⟩; obtain ⟨hc1, hf1⟩ := bcell hb1; have hz1 := hb1.size; (try simp at hz1); (try simp only [heap_drew, World.heap_drewN] at hz1); (try simp only [heap_drew, World.heap_drewN] at hc1); (try simp only [heap_drew, World.heap_drewN] at hf1); (try have hs1 := Nat.lt_of_succ_le hz1); (try have hs2 := Nat.lt_of_succ_lt hs1); (try have y0 : w.heap.size < w1.heap.size := by omega); (try have y1 : w.heap.size + 1 < w1.heap.size := by omega); (try have y2 : w.heap.size + 2 < w1.heap.size := by omega)))
  refine bodyPost_ret (v := .agg #[.int .u64 (hi64 (a * b)), .int .u64 (lo64 (a * b)), .bool false]) (by simp [results, Tryz.results185, go_sem, *]) rfl ⟨rfl, ?_⟩
  (repeat' (first | assumption | exact Below.refl _ _ | exact Below.size (by assumption) | (refine Below.setCell ?_ ?_ _) | (refine Below.alloc ?_ ?_ _) | (refine Below.drew ?_) | (refine below_drewN ?_ _) | (refine Below.trans ?_ (Below.mono ‹Below _ _ _› ?_)) | omega | (simp; done) | (simp; omega) | (simp at *; omega)))
/-- A number that fits, as an int. -/
theorem rint (n : Nat) (h : n < 9223372036854775808) (w : World) :
    Calls Tryz.prog 183 #[.agg #[.int .u64 (hi64 n), .int .u64 (lo64 n), .bool false]] w fun e w' => e = .returned (.tuple #[.int .i64 (n : Int), .bool true]) ∧ Below w.heap.size w w' := by
  have e1 : hi64 n = 0 := by unfold hi64; omega
  have e2 : lo64 n = (n : Int) := by unfold lo64; omega
  rw [e1, e2]
  have e3 : IntKind.i64.wrap (n : Int) = (n : Int) := by rw [IntKind.wrap_i64]; omega
  have T : decide ((n : Int) < 9223372036854775808) = true := by simp <;> omega
  clear e1 e2 h
  go_enter Tryz.func183, Tryz.ntmps183
  go_wp2_with fail
  go_region
  all_goals (go_wp2_with fail)
  all_goals (go_ret2; refine ⟨rfl, ?_⟩; (repeat' (first | assumption | exact Below.refl _ _ | exact Below.size (by assumption) | (refine Below.setCell ?_ ?_ _) | (refine Below.alloc ?_ ?_ _) | (refine Below.drew ?_) | (refine below_drewN ?_ _) | (refine Below.trans ?_ (Below.mono ‹Below _ _ _› ?_)) | omega | (simp; done) | (simp; omega) | (simp at *; omega))))
end Go.Proofs.YtfgakaielfekoaaGreatDoor

namespace Go.Proofs.YtfgakaielfekoaaGreatDoor
open Go.RowKit
set_option linter.unusedVariables false
set_option linter.unusedSimpArgs false

end Go.Proofs.YtfgakaielfekoaaGreatDoor

namespace Go.Proofs.YtfgakaielfekoaaGreatDoor
open Go.RowKit
set_option linter.unusedVariables false
set_option linter.unusedSimpArgs false

/-- The root, rounded up. -/
def csq (n : Nat) : Nat := if Num.isq n * Num.isq n < n then Num.isq n + 1 else Num.isq n
end Go.Proofs.YtfgakaielfekoaaGreatDoor

namespace Go.Proofs.YtfgakaielfekoaaGreatDoor.Circ

def cd (S P i : Nat) : Nat := S * i / P
def cw (S P i : Nat) : Nat := Num.isq (4 * cd S P i * (S - cd S P i))
def cs (S P i : Nat) : Nat := cd S P (i + 1) - cd S P i
def ch (S P i : Nat) : Nat := ((cw S P (i + 1) - cw S P i) + (cw S P i - cw S P (i + 1))) / 2
def side (S P i : Nat) : Nat := csq (cs S P i * cs S P i + ch S P i * ch S P i)
def ca (S P : Nat) : Nat → Nat
  | 0 => 0
  | i + 1 => ca S P i + (cw S P i + cw S P (i + 1)) * cs S P i / 2
def cp (S P : Nat) : Nat → Nat
  | 0 => 0
  | i + 1 => cp S P i + 2 * side S P i
set_option linter.unusedVariables false
end Go.Proofs.YtfgakaielfekoaaGreatDoor.Circ

namespace Go.Proofs.YtfgakaielfekoaaGreatDoor
open Go.RowKit
set_option linter.unusedVariables false
set_option linter.unusedSimpArgs false

section
variable {w w' : World} {g : Nat} {t : TypeId} {cs : Array Value}
end
def knots (X Y : Nat → Nat) (n : Nat) : List Value := (List.range n).flatMap fun j => [.int .i64 (X j), .int .i64 (Y j)]
end Go.Proofs.YtfgakaielfekoaaGreatDoor

namespace Go.Proofs.YtfgakaielfekoaaGreatDoor
open Go.RowKit
set_option linter.unusedVariables false
set_option linter.unusedSimpArgs false

theorem Blk.two {w : World} {g : Nat} {t : TypeId} {a b x y : Value} (h : Blk w g t #[a, b]) : Blk ((w.setCell ⟨g, 0, none⟩ x).setCell ⟨g, 1, none⟩ y) g t #[x, y] := (h.set_ 0 x).set_ 1 y
theorem Blk.second {w : World} {g : Nat} {t : TypeId} {a b y : Value} (h : Blk w g t #[a, b]) : Blk (w.setCell ⟨g, 1, none⟩ y) g t #[a, y] := h.set_ 1 y

/-- The division, bit by bit, behind i rounds. -/
def DvInv (N b i A q r : Nat) : Prop := ∃ T, N * 2 ^ i = T * 340282366920938463463374607431768211456 + A ∧ A < 340282366920938463463374607431768211456 ∧ T = q * b + r ∧ r < b
theorem dv_start {N b : Nat} (hN : N < 340282366920938463463374607431768211456) (hb : 0 < b) : DvInv N b 0 N 0 0 := ⟨0, by simp, hN, by simp, hb⟩
theorem dv_bound {N b i A q r : Nat} (hN : N < 340282366920938463463374607431768211456) (hi : i ≤ 128) (h : DvInv N b i A q r) (hb : 0 < b) : q ≤ N ∧ q * b + r ≤ N := by
  obtain ⟨T, h1, h2, h3, h4⟩ := h
  have hp : 2 ^ i ≤ 340282366920938463463374607431768211456 := Nat.pow_le_pow_right (by omega : 2 > 0) hi
  have h5 : N * 2 ^ i ≤ N * 340282366920938463463374607431768211456 := Nat.mul_le_mul_left _ hp
  have h6 : T ≤ N := by
    apply Nat.le_of_mul_le_mul_right (c := 340282366920938463463374607431768211456) _ (by omega)
    omega
  have h7 : q ≤ q * b := Nat.le_mul_of_pos_right q hb
  omega
theorem dv_step {N b i A q r c R : Nat} (h : DvInv N b i A q r) (hc : c = A / 170141183460469231731687303715884105728) (hR : R = 2 * r + c) :
    (R < b → DvInv N b (i + 1) (2 * A % 340282366920938463463374607431768211456) (2 * q) R) ∧ (b ≤ R → DvInv N b (i + 1) (2 * A % 340282366920938463463374607431768211456) (2 * q + 1) (R - b)) := by
  obtain ⟨T, h1, h2, h3, h4⟩ := h
  have e : N * 2 ^ (i + 1) = (2 * T + c) * 340282366920938463463374607431768211456 + 2 * A % 340282366920938463463374607431768211456 := by
    rw [Nat.pow_succ, ← Nat.mul_assoc, h1]
    omega
  have hq : 2 * q * b = 2 * (q * b) := Nat.mul_assoc 2 q b
  have hq' : (2 * q + 1) * b = 2 * (q * b) + b := by rw [Nat.add_mul, hq, Nat.one_mul]
  refine ⟨fun hlt => ⟨_, e, Nat.mod_lt _ (by omega), ?_, hlt⟩, fun hle => ⟨_, e, Nat.mod_lt _ (by omega), ?_, ?_⟩⟩
  · omega
  · omega
  · omega
theorem dv_end {N b A q r : Nat} (hN : N < 340282366920938463463374607431768211456) (h : DvInv N b 128 A q r) : q = N / b ∧ r = N % b := by
  obtain ⟨T, h1, h2, h3, h4⟩ := h
  have e : (2 : Nat) ^ 128 = 340282366920938463463374607431768211456 := by decide
  rw [e] at h1
  have hT : T = N := by omega
  rw [hT] at h3
  have hb : 0 < b := by omega
  have h5 : N / b = q := by
    rw [h3, Nat.mul_comm, Nat.mul_add_div hb, Nat.div_eq_of_lt h4, Nat.add_zero]
  have h6 : N % b = r := by
    rw [h3, Nat.mul_comm, Nat.mul_add_mod, Nat.mod_eq_of_lt h4]
  exact ⟨h5.symm, h6.symm⟩

/-- The memory of the division. -/
def DvMem (w wr : World) (G1 G2 G3 G4 G5 A b q r : Nat) : Prop :=
  Blk wr w.heap.size 202 #[.int .u64 (hi64 A), .int .u64 (lo64 A)] ∧ Blk wr G1 202 #[.int .u64 (hi64 b), .int .u64 (lo64 b)] ∧
  Blk wr G2 202 #[.int .u64 0, .int .u64 0] ∧ Blk wr G3 202 #[.int .u64 0, .int .u64 0] ∧
  Blk wr G4 202 #[.int .u64 (hi64 q), .int .u64 (lo64 q)] ∧ Blk wr G5 202 #[.int .u64 (hi64 r), .int .u64 (lo64 r)] ∧ Below w.heap.size w wr
theorem dv_mem {w : World} {G1 G2 G3 G4 G5 N b : Nat} (e1 : G1 = w.heap.size + 1) (e2 : G2 = w.heap.size + 1 + 1) (e3 : G3 = w.heap.size + 1 + 1 + 1) (e4 : G4 = w.heap.size + 1 + 1 + 1 + 1) (e5 : G5 = w.heap.size + 1 + 1 + 1 + 1 + 1) :
    DvMem w ((((((w.alloc (Obj.cells #[Value.int IntKind.u64 (hi64 N), Value.int IntKind.u64 (lo64 N)] 202)).alloc (Obj.cells #[Value.int IntKind.u64 (hi64 b), Value.int IntKind.u64 (lo64 b)] 202)).alloc
      (Obj.cells #[Value.int IntKind.u64 0, Value.int IntKind.u64 0] 202)).alloc (Obj.cells #[Value.int IntKind.u64 0, Value.int IntKind.u64 0] 202)).alloc
      (Obj.cells #[Value.int IntKind.u64 0, Value.int IntKind.u64 0] 202)).alloc (Obj.cells #[Value.int IntKind.u64 0, Value.int IntKind.u64 0] 202)) G1 G2 G3 G4 G5 N b 0 0 := by
  subst e1 e2 e3 e4 e5
  have hp : ∀ (w : World) (o : Obj), (w.alloc o).heap = w.heap.push o := fun _ _ => rfl
  refine ⟨?_, ?_, ?_, ?_, ?_, ?_, ?_⟩
  rotate_right
  (repeat' (first | assumption | exact Below.refl _ _ | exact Below.size (by assumption) | (refine Below.setCell ?_ ?_ _) | (refine Below.alloc ?_ ?_ _) | (refine Below.drew ?_) | (refine below_drewN ?_ _) | (refine Below.trans ?_ (Below.mono ‹Below _ _ _› ?_)) | omega | (simp; done) | (simp; omega) | (simp at *; omega)))
  all_goals (unfold Blk; simp only [hp, Array.getElem?_push, Array.size_push]; simp [hi64, lo64]; try (repeat rw [if_neg (by omega)]))

theorem rshift0 (a : Nat) (w : World) :
    Calls Tryz.prog 220 #[.agg #[.int .u64 (hi64 a), .int .u64 (lo64 a)], .int .u64 0] w fun e w' => e = .returned (.agg #[.int .u64 (hi64 (2 * a % 340282366920938463463374607431768211456)), .int .u64 (lo64 (2 * a % 340282366920938463463374607431768211456))]) ∧ Below w.heap.size w w' := rshift a 0 (by omega) w
theorem dv_round {N b i A q r c R : Nat} (hN : N < 340282366920938463463374607431768211456) (hb : b < 9223372036854775808) (hb0 : 0 < b) (h : DvInv N b i A q r) (hi : i < 128) (hc : c = A / 170141183460469231731687303715884105728) (hR : R = 2 * r + c) :
    c ≤ 1 ∧ hi64 A / 9223372036854775808 = (c : Int) ∧ hi64 r / 9223372036854775808 = 0 ∧ R % 340282366920938463463374607431768211456 = R ∧ 2 * q % 340282366920938463463374607431768211456 = 2 * q ∧
    (R < b → DvInv N b (i + 1) (2 * A % 340282366920938463463374607431768211456) (2 * q) R) ∧ R < 340282366920938463463374607431768211456 ∧
    (b ≤ R → DvInv N b (i + 1) (2 * A % 340282366920938463463374607431768211456) (2 * q + 1) (R - b) ∧ IntKind.u64.wrap (lo64 (2 * q) + 1) = lo64 (2 * q + 1) ∧ hi64 (2 * q) = hi64 (2 * q + 1)) := by
  obtain ⟨s1, s2⟩ := dv_step h hc hR
  have hA : A < 340282366920938463463374607431768211456 := by obtain ⟨T, h1, h2, h3, h4⟩ := h; exact h2
  have hr : r < b := by obtain ⟨T, h1, h2, h3, h4⟩ := h; exact h4
  have hq : 2 * q ≤ N := by
    rcases Nat.lt_or_ge R b with hl | hl
    · exact (dv_bound hN (by omega) (s1 hl) hb0).1
    · have := (dv_bound hN (by omega) (s2 hl) hb0).1; omega
  refine ⟨by omega, by unfold hi64; omega, by unfold hi64; omega, by omega, by omega, s1, by omega, fun hle => ⟨s2 hle, ?_, ?_⟩⟩
  · unfold lo64; rw [IntKind.wrap_u64]; omega
  · unfold hi64; omega
theorem dv_measure {i j : Nat} (hj : j = i + 1) (h : i < 128) : (128 - intOf (Value.int .i64 (j : Int))).toNat < (128 - intOf (Value.int .i64 (i : Int))).toNat := by simp [intOf]; omega
set_option maxRecDepth 100000 in
set_option maxHeartbeats 4000000 in
theorem rdiv (N b : Nat) (hN : N < 340282366920938463463374607431768211456) (hb0 : 0 < b) (hb : b < 9223372036854775808) (w : World) :
    Calls Tryz.prog 204 #[.agg #[.int .u64 (hi64 N), .int .u64 (lo64 N)], .agg #[.int .u64 (hi64 b), .int .u64 (lo64 b)]] w fun e w' => e = .returned (.tuple #[.agg #[.int .u64 (hi64 (N / b)), .int .u64 (lo64 (N / b))], .agg #[.int .u64 (hi64 (N % b)), .int .u64 (lo64 (N % b))]]) ∧ Below w.heap.size w w' := by
  have HN := Lib.hid hN
  have HB0' := Lib.hid hb0
  have HBB := Lib.hid hb
  clear hN hb0 hb
  obtain ⟨Q, hQ⟩ : ∃ z, z = N / b := ⟨_, rfl⟩
  obtain ⟨M, hM⟩ : ∃ z, z = N % b := ⟨_, rfl⟩
  rw [← hQ, ← hM]
  have HQ := Lib.hid hQ
  have HMM := Lib.hid hM
  clear hQ hM
  go_enter Tryz.func204, Tryz.ntmps204
  go_wp2_with fail
  obtain ⟨G5, e5⟩ : ∃ G, G = w.heap.size + 1 + 1 + 1 + 1 + 1 := ⟨_, rfl⟩
  rw [← e5]
  obtain ⟨G4, e4⟩ : ∃ G, G = w.heap.size + 1 + 1 + 1 + 1 := ⟨_, rfl⟩
  rw [← e4]
  obtain ⟨G3, e3⟩ : ∃ G, G = w.heap.size + 1 + 1 + 1 := ⟨_, rfl⟩
  rw [← e3]
  obtain ⟨G2, e2⟩ : ∃ G, G = w.heap.size + 1 + 1 := ⟨_, rfl⟩
  rw [← e2]
  obtain ⟨G1, e1⟩ : ∃ G, G = w.heap.size + 1 := ⟨_, rfl⟩
  rw [← e1]
  have HM := Lib.hid (dv_mem (N := N) (b := b) e1 e2 e3 e4 e5)
  have HG : Hid (w.heap.size ≤ G1 ∧ w.heap.size ≤ G2 ∧ w.heap.size ≤ G3 ∧ w.heap.size ≤ G4 ∧ w.heap.size ≤ G5) := by show _ ∧ _; omega
  have n01 : ¬ w.heap.size = G1 := by omega
  have n02 : ¬ w.heap.size = G2 := by omega
  have n03 : ¬ w.heap.size = G3 := by omega
  have n04 : ¬ w.heap.size = G4 := by omega
  have n05 : ¬ w.heap.size = G5 := by omega
  have n10 : ¬ G1 = w.heap.size := by omega
  have n12 : ¬ G1 = G2 := by omega
  have n13 : ¬ G1 = G3 := by omega
  have n14 : ¬ G1 = G4 := by omega
  have n15 : ¬ G1 = G5 := by omega
  have n20 : ¬ G2 = w.heap.size := by omega
  have n21 : ¬ G2 = G1 := by omega
  have n23 : ¬ G2 = G3 := by omega
  have n24 : ¬ G2 = G4 := by omega
  have n25 : ¬ G2 = G5 := by omega
  have n30 : ¬ G3 = w.heap.size := by omega
  have n31 : ¬ G3 = G1 := by omega
  have n32 : ¬ G3 = G2 := by omega
  have n34 : ¬ G3 = G4 := by omega
  have n35 : ¬ G3 = G5 := by omega
  have n40 : ¬ G4 = w.heap.size := by omega
  have n41 : ¬ G4 = G1 := by omega
  have n42 : ¬ G4 = G2 := by omega
  have n43 : ¬ G4 = G3 := by omega
  have n45 : ¬ G4 = G5 := by omega
  have n50 : ¬ G5 = w.heap.size := by omega
  have n51 : ¬ G5 = G1 := by omega
  have n52 : ¬ G5 = G2 := by omega
  have n53 : ¬ G5 = G3 := by omega
  have n54 : ¬ G5 = G4 := by omega
  clear e1 e2 e3 e4 e5
  go_loopw [8] (fun u wr => ∃ i A q r : Nat, Hid (DvInv N b i A q r) ∧ Hid (i ≤ 128) ∧ u = .int .i64 i ∧ Hid (DvMem w wr G1 G2 G3 G4 G5 A b q r)) (fun u _ => (128 - intOf u).toNat)
  case atStart => exact ⟨0, N, 0, 0, dv_start HN.out HB0'.out, Nat.zero_le _, rfl, HM⟩
  case round =>
    obtain ⟨i, A, q, r, HI, Hi, rfl, HMr⟩ := hrel
    have HB0 := Lib.hid HMr.out.1
    have HB1 := Lib.hid HMr.out.2.1
    have HB2 := Lib.hid HMr.out.2.2.1
    have HB3 := Lib.hid HMr.out.2.2.2.1
    have HB4 := Lib.hid HMr.out.2.2.2.2.1
    have HB5 := Lib.hid HMr.out.2.2.2.2.2.1
    have HBW := Lib.hid HMr.out.2.2.2.2.2.2
    have a0 := HB0.out.cell 0
    have b0 := HB0.out.cell 1
    have c0 := HB0.out.frozen 0
    have d0 := HB0.out.frozen 1
    have l0 := HB0.out.lt
    have a1 := HB1.out.cell 0
    have b1 := HB1.out.cell 1
    have c1 := HB1.out.frozen 0
    have d1 := HB1.out.frozen 1
    have l1 := HB1.out.lt
    have a2 := HB2.out.cell 0
    have b2 := HB2.out.cell 1
    have c2 := HB2.out.frozen 0
    have d2 := HB2.out.frozen 1
    have l2 := HB2.out.lt
    have a3 := HB3.out.cell 0
    have b3 := HB3.out.cell 1
    have c3 := HB3.out.frozen 0
    have d3 := HB3.out.frozen 1
    have l3 := HB3.out.lt
    have a4 := HB4.out.cell 0
    have b4 := HB4.out.cell 1
    have c4 := HB4.out.frozen 0
    have d4 := HB4.out.frozen 1
    have l4 := HB4.out.lt
    have a5 := HB5.out.cell 0
    have b5 := HB5.out.cell 1
    have c5 := HB5.out.frozen 0
    have d5 := HB5.out.frozen 1
    have l5 := HB5.out.lt
    simp only [List.getElem?_toArray, List.getElem?_cons_succ, List.getElem?_cons_zero] at a0 b0 a1 b1 a2 b2 a3 b3 a4 b4 a5 b5
    have g1 := HG.out.1
    have g2 := HG.out.2.1
    have g3 := HG.out.2.2.1
    have g4 := HG.out.2.2.2.1
    have g5 := HG.out.2.2.2.2
    by_cases hlt : i < 128
    · have T0 : decide ((i : Int) < 128) = true := by simp <;> omega
      obtain ⟨j, hj⟩ : ∃ j, j = i + 1 := ⟨_, rfl⟩
      have x1 : IntKind.i64.wrap ((i : Int) + 1) = (j : Int) := by rw [IntKind.wrap_i64]; omega
      obtain ⟨c, hc⟩ : ∃ c, c = A / 170141183460469231731687303715884105728 := ⟨_, rfl⟩
      obtain ⟨R, hR⟩ : ∃ z, z = 2 * r + c := ⟨_, rfl⟩
      obtain ⟨F1, F2, F3, F4, F5, F6, F7⟩ := dv_round HN.out HBB.out HB0'.out HI.out hlt hc hR
      have S1 := Lib.hid fun w => rshift0 A w
      have S2 := Lib.hid fun w => rshift r c F1 w
      rw [← hR, F4] at S2
      have S3 := Lib.hid fun w => rshift0 q w
      rw [F5] at S3
      obtain ⟨A', hA'⟩ : ∃ z, z = 2 * A % 340282366920938463463374607431768211456 := ⟨_, rfl⟩
      rw [← hA'] at S1 F6 F7
      obtain ⟨q2, hq2⟩ : ∃ z, z = 2 * q := ⟨_, rfl⟩
      rw [← hq2] at S3 F6 F7
      have HJ : Hid (j ≤ 128) := by show j ≤ 128; omega
      have HMS := Lib.hid (dv_measure hj hlt)
      rw [← hj] at F6 F7
      have HR2 := Lib.hid (show R < 340282366920938463463374607431768211456 from F7.1)
      clear hlt hc hR F1 F4 F5 hA' hq2 hj
      by_cases hl : R < b
      · have HI' := Lib.hid (F6 hl)
        have S4 := Lib.hid fun w => rless R b true (by simp [hl]) w
        clear F6 F7 hl
        go_wp2_with (first | (go_at_call 220; (with_reducible refine (S1.out _).mono ?_); rintro e w1 ⟨rfl, hb1⟩; obtain ⟨hc1, hf1⟩ := bcell hb1; have hz1 := hb1.size; (try simp at hz1); (try simp only [heap_drew, World.heap_drewN] at hz1); (try simp only [heap_drew, World.heap_drewN] at hc1); (try simp only [heap_drew, World.heap_drewN] at hf1); (try have hs1 := Nat.lt_of_succ_le hz1); (try have hs2 := Nat.lt_of_succ_lt hs1); (try have y0 : w.heap.size < w1.heap.size := by omega); (try have y1 : w.heap.size + 1 < w1.heap.size := by omega); (try have y2 : w.heap.size + 2 < w1.heap.size := by omega); (try have yG1 : G1 < w1.heap.size := by omega); (try have yG2 : G2 < w1.heap.size := by omega); (try have yG3 : G3 < w1.heap.size := by omega); (try have yG4 : G4 < w1.heap.size := by omega); (try have yG5 : G5 < w1.heap.size := by omega)) | (go_at_call 220; (with_reducible refine (S2.out _).mono ?_); rintro e w2 ⟨rfl, hb2⟩; obtain ⟨hc2, hf2⟩ := bcell hb2; have hz2 := hb2.size; (try simp at hz2); (try simp only [heap_drew, World.heap_drewN] at hz2); (try simp only [heap_drew, World.heap_drewN] at hc2); (try simp only [heap_drew, World.heap_drewN] at hf2); (try have hs1 := Nat.lt_of_succ_le hz2); (try have hs2 := Nat.lt_of_succ_lt hs1); (try have y0 : w.heap.size < w2.heap.size := by omega); (try have y1 : w.heap.size + 1 < w2.heap.size := by omega); (try have y2 : w.heap.size + 2 < w2.heap.size := by omega); (try have yG1 : G1 < w2.heap.size := by omega); (try have yG2 : G2 < w2.heap.size := by omega); (try have yG3 : G3 < w2.heap.size := by omega); (try have yG4 : G4 < w2.heap.size := by omega); (try have yG5 : G5 < w2.heap.size := by omega)) | (go_at_call 220; (with_reducible refine (S3.out _).mono ?_); rintro e w3 ⟨rfl, hb3⟩; obtain ⟨hc3, hf3⟩ := bcell hb3; have hz3 := hb3.size; (try simp at hz3); (try simp only [heap_drew, World.heap_drewN] at hz3); (try simp only [heap_drew, World.heap_drewN] at hc3); (try simp only [heap_drew, World.heap_drewN] at hf3); (try have hs1 := Nat.lt_of_succ_le hz3); (try have hs2 := Nat.lt_of_succ_lt hs1); (try have y0 : w.heap.size < w3.heap.size := by omega); (try have y1 : w.heap.size + 1 < w3.heap.size := by omega); (try have y2 : w.heap.size + 2 < w3.heap.size := by omega); (try have yG1 : G1 < w3.heap.size := by omega); (try have yG2 : G2 < w3.heap.size := by omega); (try have yG3 : G3 < w3.heap.size := by omega); (try have yG4 : G4 < w3.heap.size := by omega); (try have yG5 : G5 < w3.heap.size := by omega)) | (go_at_call 221; (with_reducible refine (S4.out _).mono ?_); rintro e w4 ⟨rfl, hb4⟩; obtain ⟨hc4, hf4⟩ := bcell hb4; have hz4 := hb4.size; (try simp at hz4); (try simp only [heap_drew, World.heap_drewN] at hz4); (try simp only [heap_drew, World.heap_drewN] at hc4); (try simp only [heap_drew, World.heap_drewN] at hf4); (try have hs1 := Nat.lt_of_succ_le hz4); (try have hs2 := Nat.lt_of_succ_lt hs1); (try have y0 : w.heap.size < w4.heap.size := by omega); (try have y1 : w.heap.size + 1 < w4.heap.size := by omega); (try have y2 : w.heap.size + 2 < w4.heap.size := by omega); (try have yG1 : G1 < w4.heap.size := by omega); (try have yG2 : G2 < w4.heap.size := by omega); (try have yG3 : G3 < w4.heap.size := by omega); (try have yG4 : G4 < w4.heap.size := by omega); (try have yG5 : G5 < w4.heap.size := by omega)))
        go_roundw
        case rel =>
          refine ⟨j, A', q2, R, HI', HJ, rfl, ?_⟩
          refine ⟨(((((((((HB0.out).call hb1).two).call hb2).far n05 _).far n05 _).call hb3).far n04 _).far n04 _).call hb4, ((((((((((HB1.out).call hb1).far n10 _).far n10 _).call hb2).far n15 _).far n15 _).call hb3).far n14 _).far n14 _).call hb4, ((((((((((HB2.out).call hb1).far n20 _).far n20 _).call hb2).far n25 _).far n25 _).call hb3).far n24 _).far n24 _).call hb4, ((((((((((HB3.out).call hb1).far n30 _).far n30 _).call hb2).far n35 _).far n35 _).call hb3).far n34 _).far n34 _).call hb4, (((((((((HB4.out).call hb1).far n40 _).far n40 _).call hb2).far n45 _).far n45 _).call hb3).two).call hb4, (((((((((HB5.out).call hb1).far n50 _).far n50 _).call hb2).two).call hb3).far n54 _).far n54 _).call hb4, ?_⟩
          (repeat' (first | assumption | exact Below.refl _ _ | exact Below.size (by assumption) | (refine Below.setCell ?_ ?_ _) | (refine Below.alloc ?_ ?_ _) | (refine Below.drew ?_) | (refine below_drewN ?_ _) | (refine Below.trans ?_ (Below.mono ‹Below _ _ _› ?_)) | omega | (simp; done) | (simp; omega) | (simp at *; omega)))
        case measure => exact HMS.out
      · have hle : b ≤ R := by omega
        obtain ⟨D1, D2, D3⟩ := F7.2 hle
        have HI' := Lib.hid D1
        have S4 := Lib.hid fun w => rless R b false (by simp [hle]) w
        have S5 := Lib.hid fun w => rminus R b hle HR2.out w
        clear F6 F7 hl hle D1
        go_wp2_with (first | (go_at_call 220; (with_reducible refine (S1.out _).mono ?_); rintro e w1 ⟨rfl, hb1⟩; obtain ⟨hc1, hf1⟩ := bcell hb1; have hz1 := hb1.size; (try simp at hz1); (try simp only [heap_drew, World.heap_drewN] at hz1); (try simp only [heap_drew, World.heap_drewN] at hc1); (try simp only [heap_drew, World.heap_drewN] at hf1); (try have hs1 := Nat.lt_of_succ_le hz1); (try have hs2 := Nat.lt_of_succ_lt hs1); (try have y0 : w.heap.size < w1.heap.size := by omega); (try have y1 : w.heap.size + 1 < w1.heap.size := by omega); (try have y2 : w.heap.size + 2 < w1.heap.size := by omega); (try have yG1 : G1 < w1.heap.size := by omega); (try have yG2 : G2 < w1.heap.size := by omega); (try have yG3 : G3 < w1.heap.size := by omega); (try have yG4 : G4 < w1.heap.size := by omega); (try have yG5 : G5 < w1.heap.size := by omega)) | (go_at_call 220; (with_reducible refine (S2.out _).mono ?_); rintro e w2 ⟨rfl, hb2⟩; obtain ⟨hc2, hf2⟩ := bcell hb2; have hz2 := hb2.size; (try simp at hz2); (try simp only [heap_drew, World.heap_drewN] at hz2); (try simp only [heap_drew, World.heap_drewN] at hc2); (try simp only [heap_drew, World.heap_drewN] at hf2); (try have hs1 := Nat.lt_of_succ_le hz2); (try have hs2 := Nat.lt_of_succ_lt hs1); (try have y0 : w.heap.size < w2.heap.size := by omega); (try have y1 : w.heap.size + 1 < w2.heap.size := by omega); (try have y2 : w.heap.size + 2 < w2.heap.size := by omega); (try have yG1 : G1 < w2.heap.size := by omega); (try have yG2 : G2 < w2.heap.size := by omega); (try have yG3 : G3 < w2.heap.size := by omega); (try have yG4 : G4 < w2.heap.size := by omega); (try have yG5 : G5 < w2.heap.size := by omega)) | (go_at_call 220; (with_reducible refine (S3.out _).mono ?_); rintro e w3 ⟨rfl, hb3⟩; obtain ⟨hc3, hf3⟩ := bcell hb3; have hz3 := hb3.size; (try simp at hz3); (try simp only [heap_drew, World.heap_drewN] at hz3); (try simp only [heap_drew, World.heap_drewN] at hc3); (try simp only [heap_drew, World.heap_drewN] at hf3); (try have hs1 := Nat.lt_of_succ_le hz3); (try have hs2 := Nat.lt_of_succ_lt hs1); (try have y0 : w.heap.size < w3.heap.size := by omega); (try have y1 : w.heap.size + 1 < w3.heap.size := by omega); (try have y2 : w.heap.size + 2 < w3.heap.size := by omega); (try have yG1 : G1 < w3.heap.size := by omega); (try have yG2 : G2 < w3.heap.size := by omega); (try have yG3 : G3 < w3.heap.size := by omega); (try have yG4 : G4 < w3.heap.size := by omega); (try have yG5 : G5 < w3.heap.size := by omega)) | (go_at_call 221; (with_reducible refine (S4.out _).mono ?_); rintro e w4 ⟨rfl, hb4⟩; obtain ⟨hc4, hf4⟩ := bcell hb4; have hz4 := hb4.size; (try simp at hz4); (try simp only [heap_drew, World.heap_drewN] at hz4); (try simp only [heap_drew, World.heap_drewN] at hc4); (try simp only [heap_drew, World.heap_drewN] at hf4); (try have hs1 := Nat.lt_of_succ_le hz4); (try have hs2 := Nat.lt_of_succ_lt hs1); (try have y0 : w.heap.size < w4.heap.size := by omega); (try have y1 : w.heap.size + 1 < w4.heap.size := by omega); (try have y2 : w.heap.size + 2 < w4.heap.size := by omega); (try have yG1 : G1 < w4.heap.size := by omega); (try have yG2 : G2 < w4.heap.size := by omega); (try have yG3 : G3 < w4.heap.size := by omega); (try have yG4 : G4 < w4.heap.size := by omega); (try have yG5 : G5 < w4.heap.size := by omega)) | (go_at_call 222; (with_reducible refine (S5.out _).mono ?_); rintro e w5 ⟨rfl, hb5⟩; obtain ⟨hc5, hf5⟩ := bcell hb5; have hz5 := hb5.size; (try simp at hz5); (try simp only [heap_drew, World.heap_drewN] at hz5); (try simp only [heap_drew, World.heap_drewN] at hc5); (try simp only [heap_drew, World.heap_drewN] at hf5); (try have hs1 := Nat.lt_of_succ_le hz5); (try have hs2 := Nat.lt_of_succ_lt hs1); (try have y0 : w.heap.size < w5.heap.size := by omega); (try have y1 : w.heap.size + 1 < w5.heap.size := by omega); (try have y2 : w.heap.size + 2 < w5.heap.size := by omega); (try have yG1 : G1 < w5.heap.size := by omega); (try have yG2 : G2 < w5.heap.size := by omega); (try have yG3 : G3 < w5.heap.size := by omega); (try have yG4 : G4 < w5.heap.size := by omega); (try have yG5 : G5 < w5.heap.size := by omega)))
        go_roundw
        case rel =>
          refine ⟨j, A', q2 + 1, R - b, HI', HJ, rfl, ?_⟩
          refine Lib.hid ?_
          unfold DvMem
          refine ⟨(((((((((((((HB0.out).call hb1).two).call hb2).far n05 _).far n05 _).call hb3).far n04 _).far n04 _).call hb4).call hb5).far n05 _).far n05 _).far n04 _, ((((((((((((((HB1.out).call hb1).far n10 _).far n10 _).call hb2).far n15 _).far n15 _).call hb3).far n14 _).far n14 _).call hb4).call hb5).far n15 _).far n15 _).far n14 _, ((((((((((((((HB2.out).call hb1).far n20 _).far n20 _).call hb2).far n25 _).far n25 _).call hb3).far n24 _).far n24 _).call hb4).call hb5).far n25 _).far n25 _).far n24 _, ((((((((((((((HB3.out).call hb1).far n30 _).far n30 _).call hb2).far n35 _).far n35 _).call hb3).far n34 _).far n34 _).call hb4).call hb5).far n35 _).far n35 _).far n34 _, (((((((((((((HB4.out).call hb1).far n40 _).far n40 _).call hb2).far n45 _).far n45 _).call hb3).two).call hb4).call hb5).far n45 _).far n45 _).second, ((((((((((((HB5.out).call hb1).far n50 _).far n50 _).call hb2).two).call hb3).far n54 _).far n54 _).call hb4).call hb5).two).far n54 _, ?_⟩
          (repeat' (first | assumption | exact Below.refl _ _ | exact Below.size (by assumption) | (refine Below.setCell ?_ ?_ _) | (refine Below.alloc ?_ ?_ _) | (refine Below.drew ?_) | (refine below_drewN ?_ _) | (refine Below.trans ?_ (Below.mono ‹Below _ _ _› ?_)) | omega | (simp; done) | (simp; omega) | (simp at *; omega)))
        case measure => exact HMS.out
    · obtain rfl : i = 128 := by have := Hi.out; omega
      obtain ⟨eq, er⟩ := dv_end HN.out HI.out
      obtain rfl : q = Q := eq.trans HQ.out.symm
      obtain rfl : r = M := er.trans HMM.out.symm
      clear hlt eq er
      go_wp2_with fail
      go_region
      all_goals (go_wp2_with fail)
      all_goals (refine bodyPost_ret (v := .tuple #[.agg #[.int .u64 (hi64 q), .int .u64 (lo64 q)], .agg #[.int .u64 (hi64 r), .int .u64 (lo64 r)]]) (by simp [results, Tryz.results204, go_sem, *]) rfl ⟨rfl, ?_⟩)
      all_goals ((repeat' (first | assumption | exact Below.refl _ _ | exact Below.size (by assumption) | (refine Below.setCell ?_ ?_ _) | (refine Below.alloc ?_ ?_ _) | (refine Below.drew ?_) | (refine below_drewN ?_ _) | (refine Below.trans ?_ (Below.mono ‹Below _ _ _› ?_)) | omega | (simp; done) | (simp; omega) | (simp at *; omega))))
end Go.Proofs.YtfgakaielfekoaaGreatDoor

namespace Go.Proofs.YtfgakaielfekoaaGreatDoor
open Go.RowKit
set_option linter.unusedVariables false
set_option linter.unusedSimpArgs false

theorem rdown (N b : Nat) (hN : N < 340282366920938463463374607431768211456) (hb0 : 0 < b) (hb : b < 9223372036854775808) (w : World) :
    Calls Tryz.prog 184 #[.agg #[.int .u64 (hi64 N), .int .u64 (lo64 N), .bool false], .agg #[.int .u64 (hi64 b), .int .u64 (lo64 b), .bool false]] w fun e w' => e = .returned (.agg #[.int .u64 (hi64 (N / b)), .int .u64 (lo64 (N / b)), .bool false]) ∧ Below w.heap.size w w' := by
  have S1 := Lib.hid fun w => rdiv N b hN hb0 hb w
  have S2 := Lib.hid fun w => rmade (N / b) w
  obtain ⟨Q, hQ⟩ : ∃ z, z = N / b := ⟨_, rfl⟩
  obtain ⟨M, hM⟩ : ∃ z, z = N % b := ⟨_, rfl⟩
  rw [← hQ] at S1 S2
  rw [← hM] at S1
  rw [← hQ]
  clear hQ hM hN hb0 hb
  go_enter Tryz.func184, Tryz.ntmps184
  go_wp2_with (first | (go_at_call 204; (with_reducible refine (S1.out _).mono ?_); rintro e w1 ⟨rfl, hb1⟩; obtain ⟨hc1, hf1⟩ := bcell hb1; have hz1 := hb1.size; (try simp at hz1); (try simp only [heap_drew, World.heap_drewN] at hz1); (try simp only [heap_drew, World.heap_drewN] at hc1); (try simp only [heap_drew, World.heap_drewN] at hf1); (try have hs1 := Nat.lt_of_succ_le hz1); (try have hs2 := Nat.lt_of_succ_lt hs1); (try have y0 : w.heap.size < w1.heap.size := by omega); (try have y1 : w.heap.size + 1 < w1.heap.size := by omega); (try have y2 : w.heap.size + 2 < w1.heap.size := by omega)) | (go_at_call 206; (with_reducible refine (S2.out _).mono ?_); rintro e w1 ⟨rfl, hb1⟩; obtain ⟨hc1, hf1⟩ := bcell hb1; have hz1 := hb1.size; (try simp at hz1); (try simp only [heap_drew, World.heap_drewN] at hz1); (try simp only [heap_drew, World.heap_drewN] at hc1); (try simp only [heap_drew, World.heap_drewN] at hf1); (try have hs1 := Nat.lt_of_succ_le hz1); (try have hs2 := Nat.lt_of_succ_lt hs1); (try have y0 : w.heap.size < w1.heap.size := by omega); (try have y1 : w.heap.size + 1 < w1.heap.size := by omega); (try have y2 : w.heap.size + 2 < w1.heap.size := by omega)))
  refine bodyPost_ret (v := .agg #[.int .u64 (hi64 Q), .int .u64 (lo64 Q), .bool false]) (by simp [results, Tryz.results184, go_sem, *]) rfl ⟨rfl, ?_⟩
  (repeat' (first | assumption | exact Below.refl _ _ | exact Below.size (by assumption) | (refine Below.setCell ?_ ?_ _) | (refine Below.alloc ?_ ?_ _) | (refine Below.drew ?_) | (refine below_drewN ?_ _) | (refine Below.trans ?_ (Below.mono ‹Below _ _ _› ?_)) | omega | (simp; done) | (simp; omega) | (simp at *; omega)))

theorem rfloorof (a b c q : Nat) (ha : a < 9223372036854775808) (hb : b < 9223372036854775808) (hc : c < 9223372036854775808) (hc0 : 0 < c) (hq : a * b / c = q) (hq' : q < 9223372036854775808) (w : World) :
    Calls Tryz.prog 149 #[.int .i64 (a : Int), .int .i64 (b : Int), .int .i64 (c : Int)] w fun e w' => e = .returned (.int .i64 (q : Int)) ∧ Below w.heap.size w w' := by
  have hp : a * b < 340282366920938463463374607431768211456 := Nat.lt_of_le_of_lt (Nat.mul_le_mul (Nat.le_of_lt ha) (Nat.le_of_lt hb)) (by decide)
  have S1 := Lib.hid fun w => rtimes a b ha hb w
  have S2 := Lib.hid fun w => rofint c hc w
  have S3 := fun w => rdown (a * b) c hp hc0 hc w
  rw [hq] at S3
  have S3 := Lib.hid S3
  have S4 := Lib.hid fun w => rint q hq' w
  clear hp ha hb hc hc0 hq hq'
  go_enter Tryz.func149, Tryz.ntmps149
  go_wp2_with (first | (go_at_call 185; (with_reducible refine (S1.out _).mono ?_); rintro e w1 ⟨rfl, hb1⟩; obtain ⟨hc1, hf1⟩ := bcell hb1; have hz1 := hb1.size; (try simp at hz1); (try simp only [heap_drew, World.heap_drewN] at hz1); (try simp only [heap_drew, World.heap_drewN] at hc1); (try simp only [heap_drew, World.heap_drewN] at hf1); (try have hs1 := Nat.lt_of_succ_le hz1); (try have hs2 := Nat.lt_of_succ_lt hs1); (try have y0 : w.heap.size < w1.heap.size := by omega); (try have y1 : w.heap.size + 1 < w1.heap.size := by omega); (try have y2 : w.heap.size + 2 < w1.heap.size := by omega)) | (go_at_call 186; (with_reducible refine (S2.out _).mono ?_); rintro e w1 ⟨rfl, hb1⟩; obtain ⟨hc1, hf1⟩ := bcell hb1; have hz1 := hb1.size; (try simp at hz1); (try simp only [heap_drew, World.heap_drewN] at hz1); (try simp only [heap_drew, World.heap_drewN] at hc1); (try simp only [heap_drew, World.heap_drewN] at hf1); (try have hs1 := Nat.lt_of_succ_le hz1); (try have hs2 := Nat.lt_of_succ_lt hs1); (try have y0 : w.heap.size < w1.heap.size := by omega); (try have y1 : w.heap.size + 1 < w1.heap.size := by omega); (try have y2 : w.heap.size + 2 < w1.heap.size := by omega)) | (go_at_call 184; (with_reducible refine (S3.out _).mono ?_); rintro e w1 ⟨rfl, hb1⟩; obtain ⟨hc1, hf1⟩ := bcell hb1; have hz1 := hb1.size; (try simp at hz1); (try simp only [heap_drew, World.heap_drewN] at hz1); (try simp only [heap_drew, World.heap_drewN] at hc1); (try simp only [heap_drew, World.heap_drewN] at hf1); (try have hs1 := Nat.lt_of_succ_le hz1); (try have hs2 := Nat.lt_of_succ_lt hs1); (try have y0 : w.heap.size < w1.heap.size := by omega); (try have y1 : w.heap.size + 1 < w1.heap.size := by omega); (try have y2 : w.heap.size + 2 < w1.heap.size := by omega)) | (go_at_call 183; (with_reducible refine (S4.out _).mono ?_); rintro e w1 ⟨rfl, hb1⟩; obtain ⟨hc1, hf1⟩ := bcell hb1; have hz1 := hb1.size; (try simp at hz1); (try simp only [heap_drew, World.heap_drewN] at hz1); (try simp only [heap_drew, World.heap_drewN] at hc1); (try simp only [heap_drew, World.heap_drewN] at hf1); (try have hs1 := Nat.lt_of_succ_le hz1); (try have hs2 := Nat.lt_of_succ_lt hs1); (try have y0 : w.heap.size < w1.heap.size := by omega); (try have y1 : w.heap.size + 1 < w1.heap.size := by omega); (try have y2 : w.heap.size + 2 < w1.heap.size := by omega)))
  go_ret
  refine ⟨rfl, ?_⟩
  (repeat' (first | assumption | exact Below.refl _ _ | exact Below.size (by assumption) | (refine Below.setCell ?_ ?_ _) | (refine Below.alloc ?_ ?_ _) | (refine Below.drew ?_) | (refine below_drewN ?_ _) | (refine Below.trans ?_ (Below.mono ‹Below _ _ _› ?_)) | omega | (simp; done) | (simp; omega) | (simp at *; omega)))

end Go.Proofs.YtfgakaielfekoaaGreatDoor

namespace Go.Proofs.YtfgakaielfekoaaGreatDoor.Val

/-- The value on the piece from knot k on: the integer below, and the rest. -/
def fl (X Y : Nat → Int) (k : Nat) (x : Int) : Int := Y k + (Y (k + 1) - Y k) * (x - X k) / (X (k + 1) - X k)
def rs (X Y : Nat → Int) (k : Nat) (x : Int) : Int := (Y (k + 1) - Y k) * (x - X k) % (X (k + 1) - X k)
/-- The value of a table whose last knot is m. -/
def val (X Y : Nat → Int) : Nat → Int → Int
  | 0, _ => Y 0
  | m + 1, x => if X (m + 1) ≤ x then Y (m + 1) else if X m ≤ x then fl X Y m x else val X Y m x
def rst (X Y : Nat → Int) : Nat → Int → Int
  | 0, _ => 0
  | m + 1, x => if X (m + 1) ≤ x then 0 else if X m ≤ x then rs X Y m x else rst X Y m x
/-- The knots ascend, the values do not descend. -/
def Asc (X Y : Nat → Int) (m : Nat) : Prop := ∀ k, k < m → X k < X (k + 1) ∧ Y k ≤ Y (k + 1)
theorem Asc.mono {X Y : Nat → Int} {m i j : Nat} (h : Asc X Y m) (hj : j ≤ m) (hij : i ≤ j) : X i ≤ X j ∧ Y i ≤ Y j := by
  induction j with
  | zero => have : i = 0 := by omega
            subst this; exact ⟨Int.le_refl _, Int.le_refl _⟩
  | succ j ih =>
    rcases Nat.lt_or_ge i (j + 1) with h1 | h1
    · have h2 := ih (by omega) (by omega)
      have h3 := h j (by omega)
      omega
    · have : i = j + 1 := by omega
      subst this; exact ⟨Int.le_refl _, Int.le_refl _⟩
theorem Asc.lt {X Y : Nat → Int} {m i j : Nat} (h : Asc X Y m) (hj : j ≤ m) (hij : i < j) : X i < X j := by
  have h1 := h i (by omega)
  have h2 := (h.mono hj (by omega : i + 1 ≤ j)).1
  omega
theorem fl_left {X Y : Nat → Int} {k : Nat} : fl X Y k (X k) = Y k := by unfold fl; simp
theorem rs_left {X Y : Nat → Int} {k : Nat} : rs X Y k (X k) = 0 := by unfold rs; simp
theorem fl_right {X Y : Nat → Int} {k : Nat} (h : X k < X (k + 1)) : fl X Y k (X (k + 1)) = Y (k + 1) := by
  unfold fl; rw [Int.mul_ediv_cancel _ (by omega)]; omega
theorem fl_mono {X Y : Nat → Int} {k : Nat} {x y : Int} (hX : X k < X (k + 1)) (hY : Y k ≤ Y (k + 1)) (h : x ≤ y) : fl X Y k x ≤ fl X Y k y := by
  unfold fl
  have h1 : (Y (k + 1) - Y k) * (x - X k) ≤ (Y (k + 1) - Y k) * (y - X k) := Int.mul_le_mul_of_nonneg_left (by omega) (by omega)
  have h2 := Int.ediv_le_ediv (c := X (k + 1) - X k) (by omega) h1
  omega
/-- What a search finds. -/
theorem val_first {X Y : Nat → Int} {m : Nat} {x : Int} (ha : Asc X Y m) (hx : x ≤ X 0) : val X Y m x = Y 0 ∧ rst X Y m x = 0 := by
  induction m with
  | zero => exact ⟨rfl, rfl⟩
  | succ m ih =>
    have h1 := ha m (by omega)
    have h2 := (ha.mono (by omega : m ≤ m + 1) (Nat.zero_le m)).1
    have ih' := ih (fun k hk => ha k (by omega))
    have e1 : ¬ X (m + 1) ≤ x := by omega
    simp only [val, rst, if_neg e1]
    by_cases h3 : X m ≤ x
    · have hm : m = 0 := by
        rcases Nat.eq_zero_or_pos m with h | h
        · exact h
        · have := ha.lt (by omega : m ≤ m + 1) h; omega
      subst hm
      have : x = X 0 := by omega
      subst this
      simp only [if_pos h3]
      exact ⟨fl_left, rs_left⟩
    · simp only [if_neg h3]; exact ih'
theorem val_last {X Y : Nat → Int} {m : Nat} {x : Int} (hx : X m ≤ x) : val X Y m x = Y m ∧ rst X Y m x = 0 := by
  cases m with
  | zero => exact ⟨rfl, rfl⟩
  | succ m => simp only [val, rst, if_pos hx]; exact ⟨trivial, trivial⟩
theorem val_mid {X Y : Nat → Int} {m k : Nat} {x : Int} (ha : Asc X Y m) (hk : k < m) (h1 : X k ≤ x) (h2 : x < X (k + 1)) : val X Y m x = fl X Y k x ∧ rst X Y m x = rs X Y k x := by
  induction m with
  | zero => omega
  | succ m ih =>
    have h3 := (ha.mono (Nat.le_refl _) (by omega : k + 1 ≤ m + 1)).1
    have e1 : ¬ X (m + 1) ≤ x := by omega
    simp only [val, rst, if_neg e1]
    by_cases h4 : k = m
    · subst h4; simp only [if_pos h1]; exact ⟨trivial, trivial⟩
    · have h5 := (ha.mono (by omega : m ≤ m + 1) (by omega : k + 1 ≤ m)).1
      have e2 : ¬ X m ≤ x := by omega
      simp only [if_neg e2]
      exact ih (fun k hk => ha k (by omega)) (by omega)
theorem val_knot {X Y : Nat → Int} {m k : Nat} (ha : Asc X Y m) (hk : k ≤ m) : val X Y m (X k) = Y k ∧ rst X Y m (X k) = 0 := by
  rcases Nat.lt_or_ge k m with h | h
  · have := ha k h
    have h2 := val_mid (x := X k) ha h (Int.le_refl _) this.1
    rw [h2.1, h2.2, fl_left, rs_left]; exact ⟨rfl, rfl⟩
  · have : k = m := by omega
    subst this; exact val_last (Int.le_refl _)
/-- Every number lies before the first knot, behind the last one, or on a piece. -/
theorem where_ {X Y : Nat → Int} {m : Nat} (x : Int) (ha : Asc X Y m) : x ≤ X 0 ∨ X m ≤ x ∨ ∃ k, k < m ∧ X k ≤ x ∧ x < X (k + 1) := by
  induction m with
  | zero => omega
  | succ m ih =>
    rcases ih (fun k hk => ha k (by omega)) with h | h | ⟨k, hk, h1, h2⟩
    · exact .inl h
    · by_cases h3 : X (m + 1) ≤ x
      · exact .inr (.inl h3)
      · exact .inr (.inr ⟨m, by omega, h, by omega⟩)
    · exact .inr (.inr ⟨k, by omega, h1, h2⟩)
theorem fl_in {X Y : Nat → Int} {m k : Nat} {x : Int} (ha : Asc X Y m) (hk : k < m) (h1 : X k ≤ x) (h2 : x ≤ X (k + 1)) : Y k ≤ fl X Y k x ∧ fl X Y k x ≤ Y (k + 1) := by
  have h3 := ha k hk
  have e1 := fl_mono (Y := Y) h3.1 h3.2 h1
  have e2 := fl_mono (Y := Y) h3.1 h3.2 h2
  rw [fl_left] at e1
  rw [fl_right h3.1] at e2
  exact ⟨e1, e2⟩
theorem val_mono {X Y : Nat → Int} {m : Nat} {x y : Int} (ha : Asc X Y m) (h : x ≤ y) : val X Y m x ≤ val X Y m y := by
  have top := fun k (hk : k ≤ m) => (ha.mono hk (Nat.zero_le k)).2
  have bot := fun k (hk : k ≤ m) => (ha.mono (Nat.le_refl m) hk).2
  rcases where_ y ha with hy | hy | ⟨j, hj, hy1, hy2⟩
  · rw [(val_first ha hy).1, (val_first ha (by omega : x ≤ X 0)).1]; exact Int.le_refl _
  · rw [(val_last hy).1]
    rcases where_ x ha with hx | hx | ⟨k, hk, hx1, hx2⟩
    · rw [(val_first ha hx).1]; exact bot 0 (by omega)
    · rw [(val_last hx).1]; exact Int.le_refl _
    · rw [(val_mid ha hk hx1 hx2).1]
      have := (fl_in ha hk hx1 (by omega)).2
      have := bot (k + 1) (by omega)
      omega
  · rw [(val_mid ha hj hy1 hy2).1]
    have fy := fl_in ha hj hy1 (by omega)
    rcases where_ x ha with hx | hx | ⟨k, hk, hx1, hx2⟩
    · rw [(val_first ha hx).1]
      have := top j (by omega)
      omega
    · have := (ha.mono (Nat.le_refl m) (by omega : j + 1 ≤ m)).1
      omega
    · rw [(val_mid ha hk hx1 hx2).1]
      rcases Nat.lt_trichotomy k j with hkj | rfl | hkj
      · have h1 := (fl_in ha hk hx1 (by omega)).2
        have h2 := (ha.mono (by omega : j ≤ m) (by omega : k + 1 ≤ j)).2
        omega
      · exact fl_mono (ha k hk).1 (ha k hk).2 h
      · have := (ha.mono (by omega : k ≤ m) (by omega : j + 1 ≤ k)).1
        omega
theorem val_ge {X Y : Nat → Int} {m : Nat} {x : Int} (ha : Asc X Y m) : Y 0 ≤ val X Y m x := by
  rcases where_ x ha with hx | hx | ⟨k, hk, hx1, hx2⟩
  · rw [(val_first ha hx).1]; exact Int.le_refl _
  · rw [(val_last hx).1]; exact (ha.mono (Nat.le_refl m) (Nat.zero_le m)).2
  · rw [(val_mid ha hk hx1 hx2).1]
    have := (fl_in ha hk hx1 (by omega)).1
    have := (ha.mono (by omega : k ≤ m) (Nat.zero_le k)).2
    omega
end Go.Proofs.YtfgakaielfekoaaGreatDoor.Val

namespace Go.Proofs.YtfgakaielfekoaaGreatDoor
open Go.RowKit
set_option linter.unusedVariables false
set_option linter.unusedSimpArgs false

theorem asc_of {m : Nat} {X Y : Nat → Int} (h : TabOK (m + 1) X Y) : Val.Asc X Y m := fun k hk => (h.2.2 (k + 1) (by omega)).2.2 (by omega)
theorem in_of {n k : Nat} {X Y : Nat → Int} (h : TabOK n X Y) (hk : k < n) : (-1125899906842624 ≤ X k ∧ X k ≤ 1125899906842624) ∧ (-1125899906842624 ≤ Y k ∧ Y k ≤ 1125899906842624) := ⟨(h.2.2 k hk).1, (h.2.2 k hk).2.1⟩

end Go.Proofs.YtfgakaielfekoaaGreatDoor

namespace Go.Proofs.YtfgakaielfekoaaGreatDoor
open Go.RowKit
set_option linter.unusedVariables false
set_option linter.unusedSimpArgs false

end Go.Proofs.YtfgakaielfekoaaGreatDoor

namespace Go.Proofs.YtfgakaielfekoaaGreatDoor
open Go.RowKit
set_option linter.unusedVariables false
set_option linter.unusedSimpArgs false

end Go.Proofs.YtfgakaielfekoaaGreatDoor

namespace Go.Proofs.YtfgakaielfekoaaGreatDoor
open Go.RowKit
set_option linter.unusedVariables false
set_option linter.unusedSimpArgs false

end Go.Proofs.YtfgakaielfekoaaGreatDoor

namespace Go.Proofs.YtfgakaielfekoaaGreatDoor
open Go.RowKit
set_option linter.unusedVariables false
set_option linter.unusedSimpArgs false

/-- The last knot whose X is at most x, among the first i ones. -/
def BInv (X : Nat → Int) (x : Int) (i : Nat) (K : Int) : Prop := (K = -1 ∧ ∀ j, j < i → x < X j) ∨ ∃ k : Nat, k < i ∧ K = k ∧ X k ≤ x ∧ ∀ j, k < j → j < i → x < X j
theorem binv_uniq {X : Nat → Int} {x : Int} {i : Nat} {K L : Int} (h : BInv X x i K) (h' : BInv X x i L) : K = L := by
  rcases h with ⟨rfl, h⟩ | ⟨k, hk, rfl, h1, h2⟩ <;> rcases h' with ⟨rfl, h'⟩ | ⟨l, hl, rfl, h1', h2'⟩
  · rfl
  · have := h l hl; omega
  · have := h' k hk; omega
  · rcases Nat.lt_trichotomy k l with hc | rfl | hc
    · have := h2 l hc hl; omega
    · rfl
    · have := h2' k hc hk; omega
theorem binv_yes {X : Nat → Int} {x : Int} {i : Nat} (hx : X i ≤ x) : BInv X x (i + 1) i := .inr ⟨i, by omega, rfl, hx, fun j h1 h2 => absurd h1 (by omega)⟩
theorem binv_no {X : Nat → Int} {x : Int} {i : Nat} {K : Int} (h : BInv X x i K) (hx : x < X i) : BInv X x (i + 1) K := by
  have ex : ∀ j, j < i + 1 → ¬ j < i → x < X j := fun j h1 h2 => by
    have : j = i := by omega
    rw [this]; exact hx
  rcases h with ⟨rfl, h⟩ | ⟨k, hk, rfl, h1, h2⟩
  · exact .inl ⟨rfl, fun j hj => if hh : j < i then h j hh else ex j hj hh⟩
  · exact .inr ⟨k, by omega, rfl, h1, fun j hj hj' => if hh : j < i then h2 j hj hh else ex j hj' hh⟩

end Go.Proofs.YtfgakaielfekoaaGreatDoor

namespace Go.Proofs.YtfgakaielfekoaaGreatDoor
open Go.RowKit
set_option linter.unusedVariables false
set_option linter.unusedSimpArgs false

theorem mpred (a b y : Int) (g : Nat) (f : Bool) (hf : f = decide (y < b)) (w : World) (hc : w.cell? ⟨g, 0, none⟩ = some (.int .i64 y)) (hg : g < w.heap.size) :
    Calls Tryz.prog 159 #[.agg #[.int .i64 a, .int .i64 b], .pointer (some ⟨g, 0, none⟩)] w fun e w' => e = .returned (.bool f) ∧ Below w.heap.size w w' := by
  cases f with
  | true =>
    have T := hf.symm
    clear hf
    go_enter Tryz.func159, Tryz.ntmps159
    go_wp2_with fail
    go_ret
    refine ⟨rfl, ?_⟩
    (repeat' (first | assumption | exact Below.refl _ _ | exact Below.size (by assumption) | (refine Below.setCell ?_ ?_ _) | (refine Below.alloc ?_ ?_ _) | (refine Below.drew ?_) | (refine below_drewN ?_ _) | (refine Below.trans ?_ (Below.mono ‹Below _ _ _› ?_)) | omega | (simp; done) | (simp; omega) | (simp at *; omega)))
  | false =>
    have T := hf.symm
    clear hf
    go_enter Tryz.func159, Tryz.ntmps159
    go_wp2_with fail
    go_ret
    refine ⟨rfl, ?_⟩
    (repeat' (first | assumption | exact Below.refl _ _ | exact Below.size (by assumption) | (refine Below.setCell ?_ ?_ _) | (refine Below.alloc ?_ ?_ _) | (refine Below.drew ?_) | (refine below_drewN ?_ _) | (refine Below.trans ?_ (Below.mono ‹Below _ _ _› ?_)) | omega | (simp; done) | (simp; omega) | (simp at *; omega)))

set_option maxHeartbeats 2000000 in
/-- slices.IndexFunc, of the predicate of Most. -/
theorem findex_most (b off n c k g : Nat) (X Y : Nat → Int) (y : Int) (w : World) (h2 : n ≤ 200) (ht : TabAt w b off n X Y) (hy : w.cell? ⟨g, 0, none⟩ = some (.int .i64 y)) (hg : g < w.heap.size) (hk : FirstAt (fun j => decide (y < Y j)) n k) (v : Int) (hv : v = if k < n then (k : Int) else -1) :
    Calls Tryz.prog 158 #[.slice (some ⟨b, off, none⟩) n c, .func (.func 159) #[] #[.pointer (some ⟨g, 0, none⟩)]] w fun e w' => e = .returned (.int .i64 v) ∧ Below w.heap.size w w' := by
  have HT := Lib.hid ht
  have HK := Lib.hid hk
  have H2 := Lib.hid h2
  have HY := Lib.hid hy
  have HV := Lib.hid hv
  have hb := ht.1
  clear ht hk h2 hy hv
  go_enter Tryz.func158, Tryz.ntmps158
  go_wp2_with fail
  go_loopw [8] (fun u wr => ∃ i : Nat, Hid (i ≤ n ∧ i ≤ k) ∧ u = .int .i64 i ∧ Hid (Below w.heap.size w wr)) (fun u _ => n - (intOf u).toNat)
  case atStart => exact ⟨0, ⟨Nat.zero_le _, Nat.zero_le _⟩, rfl, Below.refl _ _⟩
  case round =>
    obtain ⟨i, Hi, rfl, HW⟩ := hrel
    by_cases hlt : i < n
    · have T0 : decide ((i : Int) < (n : Int)) = true := by simp <;> omega
      have T0' : decide (i < n) = true := decide_eq_true hlt
      obtain ⟨i', hi'⟩ : ∃ z, z = i + 1 := ⟨_, rfl⟩
      have x0 : IntKind.i64.wrap ((i : Int) + 1) = (i' : Int) := by have := H2.out; rw [IntKind.wrap_i64]; omega
      have HTr := Lib.hid (HT.out.below HW.out hb)
      have hX := (HTr.out.2 i hlt).1
      have hY := (HTr.out.2 i hlt).2
      have hyr : wr.cell? ⟨g, 0, none⟩ = some (.int .i64 y) := (HW.out.cell (p := ⟨g, 0, none⟩) hg).trans HY.out
      have hgr : g < wr.heap.size := Nat.lt_of_lt_of_le hg HW.out.size
      have HMS : Hid (n - (intOf (Value.int .i64 (i' : Int))).toNat < n - (intOf (Value.int .i64 (i : Int))).toNat) := by show _ < _; simp [intOf]; omega
      rcases first_at HK.out hlt Hi.out.2 with ⟨hp, hik⟩ | ⟨hp, hik⟩
      · have KK := Lib.hid (mpred (X i) (Y i) y g true hp.symm wr hyr hgr)
        have HR : Hid ((i : Int) = v) := by show (i : Int) = v; rw [HV.out, hik, if_pos (by omega)]
        clear hi' hp hik hyr hgr
        go_wp2_with (first | (go_at_call 159; (with_reducible refine (KK.out).mono ?_); rintro e w1 ⟨rfl, hb1⟩; obtain ⟨hc1, hf1⟩ := bcell hb1; have hz1 := hb1.size; (try simp at hz1); (try simp only [heap_drew, World.heap_drewN] at hz1); (try simp only [heap_drew, World.heap_drewN] at hc1); (try simp only [heap_drew, World.heap_drewN] at hf1); (try have hs1 := Nat.lt_of_succ_le hz1); (try have hs2 := Nat.lt_of_succ_lt hs1); (try have y0 : w.heap.size < w1.heap.size := by omega); (try have y1 : w.heap.size + 1 < w1.heap.size := by omega); (try have y2 : w.heap.size + 2 < w1.heap.size := by omega)))
        go_ret
        refine ⟨ret_int HR.out, ?_⟩
        have := HW.out
        (repeat' (first | assumption | exact Below.refl _ _ | exact Below.size (by assumption) | (refine Below.setCell ?_ ?_ _) | (refine Below.alloc ?_ ?_ _) | (refine Below.drew ?_) | (refine below_drewN ?_ _) | (refine Below.trans ?_ (Below.mono ‹Below _ _ _› ?_)) | omega | (simp; done) | (simp; omega) | (simp at *; omega)))
      · have KK := Lib.hid (mpred (X i) (Y i) y g false hp.symm wr hyr hgr)
        have HI' : Hid (i' ≤ n ∧ i' ≤ k) := by show _ ∧ _; omega
        clear hi' hp hik hyr hgr
        go_wp2_with (first | (go_at_call 159; (with_reducible refine (KK.out).mono ?_); rintro e w1 ⟨rfl, hb1⟩; obtain ⟨hc1, hf1⟩ := bcell hb1; have hz1 := hb1.size; (try simp at hz1); (try simp only [heap_drew, World.heap_drewN] at hz1); (try simp only [heap_drew, World.heap_drewN] at hc1); (try simp only [heap_drew, World.heap_drewN] at hf1); (try have hs1 := Nat.lt_of_succ_le hz1); (try have hs2 := Nat.lt_of_succ_lt hs1); (try have y0 : w.heap.size < w1.heap.size := by omega); (try have y1 : w.heap.size + 1 < w1.heap.size := by omega); (try have y2 : w.heap.size + 2 < w1.heap.size := by omega)))
        go_roundw
        case rel => exact ⟨i', HI', rfl, HW.out.trans (hb1.mono HW.out.size)⟩
        case measure => exact HMS.out
    · have e : i = n := by have := Hi.out; omega
      have HR : Hid ((-1 : Int) = v) := by show (-1 : Int) = v; rw [HV.out, if_neg (by have := Hi.out; omega)]
      have T0' : decide (i < n) = false := decide_eq_false hlt
      clear e hlt
      go_wp2_with fail
      go_ret
      exact ⟨ret_int HR.out, HW.out⟩
end Go.Proofs.YtfgakaielfekoaaGreatDoor

namespace Go.Proofs.YtfgakaielfekoaaGreatDoor.Val

/-- The value, rounded up, by the rest. -/
def up (X Y : Nat → Int) (m : Nat) (x : Int) : Int := val X Y m x + if 0 < rst X Y m x then 1 else 0
/-- What Most answers: up to where the values stay at most y. -/
def MostAt (X Y : Nat → Int) (m : Nat) (y n : Int) : Prop :=
  (Y m ≤ y ∧ n = X m) ∨ ∃ k, k < m ∧ Y k ≤ y ∧ y < Y (k + 1) ∧ n = X k + ((y - Y k) * (X (k + 1) - X k)) / (Y (k + 1) - Y k)
theorem le_div {a b c : Int} (hc : 0 < c) : a ≤ b / c ↔ a * c ≤ b := Int.le_ediv_iff_mul_le hc
theorem most_in {X Y : Nat → Int} {m : Nat} {y n : Int} (ha : Asc X Y m) (h : MostAt X Y m y n) : X 0 ≤ n ∧ n ≤ X m := by
  rcases h with ⟨_, rfl⟩ | ⟨k, hk, h1, h2, rfl⟩
  · exact ⟨(ha.mono (Nat.le_refl m) (Nat.zero_le m)).1, Int.le_refl _⟩
  · have h3 := (ha k hk).1
    have h4 := (ha.mono (by omega : k ≤ m) (Nat.zero_le k)).1
    have h5 := (ha.mono (Nat.le_refl m) (by omega : k + 1 ≤ m)).1
    have h6 : 0 < Y (k + 1) - Y k := by omega
    have h7 : ((y - Y k) * (X (k + 1) - X k)) / (Y (k + 1) - Y k) ≤ X (k + 1) - X k := by
      apply Int.ediv_le_of_le_mul h6
      rw [Int.mul_comm (X (k + 1) - X k)]
      exact Int.mul_le_mul_of_nonneg_right (by omega) (by omega)
    have h8 : 0 ≤ ((y - Y k) * (X (k + 1) - X k)) / (Y (k + 1) - Y k) := Int.ediv_nonneg (Int.mul_nonneg (by omega) (by omega)) (by omega)
    omega
theorem up_mono_knot {X Y : Nat → Int} {m k : Nat} (ha : Asc X Y m) (hk : k ≤ m) : up X Y m (X k) = Y k := by
  unfold up; rw [(val_knot ha hk).1, (val_knot ha hk).2]; simp
theorem up_ge {X Y : Nat → Int} {m : Nat} {x : Int} : val X Y m x ≤ up X Y m x := by unfold up; split <;> omega
theorem up_step {P D t : Int} (hD : 0 < D) : P / D + (if 0 < P % D then 1 else 0) ≤ t ↔ P ≤ t * D := by
  have e := Int.mul_ediv_add_emod P D
  have m0 := Int.emod_nonneg P (by omega : D ≠ 0)
  have m1 := Int.emod_lt_of_pos P hD
  generalize P / D = q at *
  generalize P % D = r at *
  subst e
  by_cases hr : 0 < r
  · rw [if_pos hr]
    constructor
    · intro h
      have := Int.mul_le_mul_of_nonneg_left h (by omega : 0 ≤ D)
      rw [Int.mul_add, Int.mul_one, Int.mul_comm D t] at this
      omega
    · intro h
      apply Classical.byContradiction
      intro h2
      have := Int.mul_le_mul_of_nonneg_left (by omega : t ≤ q) (by omega : 0 ≤ D)
      rw [Int.mul_comm D t] at this
      omega
  · rw [if_neg hr]
    have : r = 0 := by omega
    subst this
    constructor
    · intro h
      have := Int.mul_le_mul_of_nonneg_left (by omega : q ≤ t) (by omega : 0 ≤ D)
      rw [Int.mul_comm D t] at this
      omega
    · intro h
      apply Classical.byContradiction
      intro h2
      have := Int.mul_le_mul_of_nonneg_left (by omega : t + 1 ≤ q) (by omega : 0 ≤ D)
      rw [Int.mul_add, Int.mul_one, Int.mul_comm D t] at this
      omega
/-- On a piece the value, rounded up, is at most y exactly if the product is. -/
theorem up_mid {X Y : Nat → Int} {m k : Nat} {x y : Int} (ha : Asc X Y m) (hk : k < m) (h1 : X k ≤ x) (h2 : x < X (k + 1)) : up X Y m x ≤ y ↔ (Y (k + 1) - Y k) * (x - X k) ≤ (y - Y k) * (X (k + 1) - X k) := by
  have h := up_step (P := (Y (k + 1) - Y k) * (x - X k)) (D := X (k + 1) - X k) (t := y - Y k) (by omega)
  unfold up
  rw [(val_mid ha hk h1 h2).1, (val_mid ha hk h1 h2).2, ← h]
  unfold fl rs
  constructor <;> intro _ <;> omega
theorem up_mono {X Y : Nat → Int} {m : Nat} {x z : Int} (ha : Asc X Y m) (h : x ≤ z) : up X Y m x ≤ up X Y m z := by
  rcases where_ x ha with hx | hx | ⟨k, hk, hx1, hx2⟩
  · have a := val_first ha hx
    have b := val_ge (x := z) ha
    have c := up_ge (X := X) (Y := Y) (m := m) (x := z)
    unfold up at *; rw [a.1, a.2] at *; simp; omega
  · have a := val_last (Y := Y) hx
    have b := val_last (Y := Y) (by omega : X m ≤ z)
    unfold up; rw [a.1, a.2, b.1, b.2]; exact Int.le_refl _
  · by_cases hz : z < X (k + 1)
    · rw [up_mid ha hk hx1 hx2]
      have hz2 := (up_mid (y := up X Y m z) ha hk (by omega) hz).1 (Int.le_refl _)
      have h3 := Int.mul_le_mul_of_nonneg_left (by omega : x - X k ≤ z - X k) (by have := (ha k hk).2; omega : 0 ≤ Y (k + 1) - Y k)
      omega
    · rw [up_mid ha hk hx1 hx2]
      have a := val_mono ha (by omega : X (k + 1) ≤ z)
      rw [(val_knot ha (by omega : k + 1 ≤ m)).1] at a
      have c := up_ge (X := X) (Y := Y) (m := m) (x := z)
      have h3 := Int.mul_le_mul_of_nonneg_left (by omega : x - X k ≤ X (k + 1) - X k) (by have := (ha k hk).2; omega : 0 ≤ Y (k + 1) - Y k)
      have h4 := Int.mul_le_mul_of_nonneg_right (by omega : Y (k + 1) - Y k ≤ up X Y m z - Y k) (by omega : 0 ≤ X (k + 1) - X k)
      omega
/-- Up to the last X a number has a value, rounded up, of at most y exactly if it is at most Most. -/
theorem most_iff {X Y : Nat → Int} {m : Nat} {y n x : Int} (ha : Asc X Y m) (h : MostAt X Y m y n) (hx : x ≤ X m) : up X Y m x ≤ y ↔ x ≤ n := by
  rcases h with ⟨h1, rfl⟩ | ⟨k, hk, h1, h2, rfl⟩
  · have := up_mono ha hx
    rw [up_mono_knot ha (Nat.le_refl m)] at this
    constructor <;> intro _ <;> omega
  · have h3 := (ha k hk).1
    have h6 : 0 < Y (k + 1) - Y k := by omega
    have h8 : 0 ≤ ((y - Y k) * (X (k + 1) - X k)) / (Y (k + 1) - Y k) := Int.ediv_nonneg (Int.mul_nonneg (by omega) (by omega)) (by omega)
    by_cases c1 : x < X k
    · have v1 := up_mono ha (by omega : x ≤ X k)
      rw [up_mono_knot ha (by omega : k ≤ m)] at v1
      constructor <;> intro _ <;> omega
    · by_cases c2 : X (k + 1) ≤ x
      · have v1 := up_mono ha c2
        rw [up_mono_knot ha (by omega : k + 1 ≤ m)] at v1
        have h7 : ((y - Y k) * (X (k + 1) - X k)) / (Y (k + 1) - Y k) < X (k + 1) - X k := by
          rw [Int.ediv_lt_iff_lt_mul h6, Int.mul_comm (X (k + 1) - X k)]
          exact Int.mul_lt_mul_of_pos_right (by omega) (by omega)
        constructor <;> intro _ <;> omega
      · rw [up_mid ha hk (by omega) (by omega), Int.mul_comm (Y (k + 1) - Y k), ← le_div h6]
        constructor <;> intro _ <;> omega
end Go.Proofs.YtfgakaielfekoaaGreatDoor.Val

namespace Go.Proofs.YtfgakaielfekoaaGreatDoor
open Go.RowKit
set_option linter.unusedVariables false
set_option linter.unusedSimpArgs false

theorem cell_two {w : World} {o o' : Obj} {p : Addr} {v : Value} (h : w.cell? p = some v) (hp : p.block < w.heap.size) : ((w.alloc o).alloc o').drew.cell? p = some v := by
  have hb : Below w.heap.size w ((w.alloc o).alloc o') := ((Below.refl _ _).alloc (Nat.le_refl _) o).alloc (by simp) o'
  exact (hb.cell hp).trans h
theorem inv_bounds {T D U : Nat} (bT : T ≤ U) (bU : U ≤ 2251799813685248) (bD : D ≤ 2251799813685248) (hU : 0 < U) :
    T * D / 18446744073709551616 < U ∧ T * D / U ≤ D ∧ (T * D + U - 1) / U ≤ D := by
  have h1 : T * D ≤ U * D := Nat.mul_le_mul_right D bT
  have h2 : T * D ≤ U * 2251799813685248 := Nat.le_trans h1 (Nat.mul_le_mul_left U bD)
  refine ⟨?_, ?_, ?_⟩
  · rw [Nat.div_lt_iff_lt_mul (by omega)]; omega
  · exact Nat.div_le_of_le_mul h1
  · rw [← Nat.lt_succ_iff, Nat.div_lt_iff_lt_mul hU, Nat.succ_mul, Nat.mul_comm D U]; omega

end Go.Proofs.YtfgakaielfekoaaGreatDoor

namespace Go.Proofs.YtfgakaielfekoaaGreatDoor
open Go.RowKit
set_option linter.unusedVariables false
set_option linter.unusedSimpArgs false

set_option maxRecDepth 100000 in
set_option maxHeartbeats 2000000 in
theorem tmost_mid (b off n c p T D U : Nat) (X Y : Nat → Int) (y : Int) (w : World) (hv : TabOK n X Y) (ht : TabAt w b off n X Y) (hp : p + 1 < n) (hs : FirstAt (fun j => decide (y < Y j)) n (p + 1))
    (eT : y - Y p = (T : Int)) (eD : X (p + 1) - X p = (D : Int)) (eU : Y (p + 1) - Y p = (U : Int)) (bT : T ≤ U) (hU : 0 < U) (v : Int) (hvv : v = X p + ((T * D / U : Nat) : Int)) :
    Calls Tryz.prog 124 #[.slice (some ⟨b, off, none⟩) n c, .int .i64 y] w fun e w' => e = .returned (.tuple #[.int .i64 v, .int .i64 0]) ∧ Below w.heap.size w w' := by
  have bp := in_of hv (by omega : p < n)
  have bp1 := in_of hv hp
  have hv2 := hv.2.1
  have S0 := Lib.hid fun w ht => tvalid6 b off n c X Y w hv.1 hv.2.1 ht
  have tv := tabB_true hv
  obtain ⟨k, hk⟩ : ∃ k, k = p + 1 := ⟨_, rfl⟩
  rw [← hk] at hs hp eD eU bp1
  obtain ⟨q1, q2, q3⟩ := inv_bounds (T := T) (D := D) (U := U) bT (by omega) (by omega) hU
  obtain ⟨lo, hlo⟩ : ∃ z, z = T * D / U := ⟨_, rfl⟩
  obtain ⟨hi, hhi⟩ : ∃ z, z = (T * D + U - 1) / U := ⟨_, rfl⟩
  rw [← hlo] at q2 hvv
  rw [← hhi] at q3
  have S1 := Lib.hid fun (w' : World) ht hy hg => findex_most b off n c k w.heap.size X Y y w' (by omega) ht hy hg hs (k : Int) (by rw [if_pos hp])
  have S2 := Lib.hid fun w => wscale T D U lo hi (by omega) (by omega) (by omega) q1 hlo hhi (by omega) (by omega) w
  have HT := Lib.hid ht
  have hb := ht.1
  have hpn : p < n := by omega
  have hx1 := (HT.out.2 p hpn).1
  have hy1 := (HT.out.2 p hpn).2
  have hx2 := (HT.out.2 k hp).1
  have hy2 := (HT.out.2 k hp).2
  have e1 : IntKind.i64.wrap ((k : Int) - 1) = (p : Int) := by rw [IntKind.wrap_i64]; omega
  have e2 : IntKind.i64.wrap (y - Y p) = (T : Int) := by rw [eT]; exact wrap_id (by omega) (by omega)
  have e3 : IntKind.i64.wrap (X k - X p) = (D : Int) := by rw [eD]; exact wrap_id (by omega) (by omega)
  have e4 : IntKind.i64.wrap (Y k - Y p) = (U : Int) := by rw [eU]; exact wrap_id (by omega) (by omega)
  have e5 : IntKind.i64.wrap (X p + (lo : Int)) = v := by rw [hvv]; exact wrap_id (by omega) (by omega)
  have t1 : ((k : Int) == -1) = false := by simp <;> omega
  have t2 : ((k : Int) == 0) = false := by simp <;> omega
  have t3 : ¬ k = 0 := by omega
  have k0 : (0 : Int) ≤ (p : Int) := by omega
  have k1 : (p : Int) < (n : Int) := by omega
  have k2 : (0 : Int) ≤ (k : Int) := by omega
  have k3 : (k : Int) < (n : Int) := by omega
  clear hs hv ht bp bp1 hv2 q1 q2 q3 hlo hhi hvv eT eD eU bT hU hk
  go_enter Tryz.func124, Tryz.ntmps124
  go_wp2_with (first | (go_at_call 157; (with_reducible refine (S0.out _ ?_).mono ?_); (focus (exact HT.out.below (by (repeat' (first | assumption | exact Below.refl _ _ | exact Below.size (by assumption) | (refine Below.setCell ?_ ?_ _) | (refine Below.alloc ?_ ?_ _) | (refine Below.drew ?_) | (refine below_drewN ?_ _) | (refine Below.trans ?_ (Below.mono ‹Below _ _ _› ?_)) | omega | (simp; done) | (simp; omega) | (simp at *; omega)))) hb)); rintro e w1 ⟨rfl, hb1⟩; obtain ⟨hc1, hf1⟩ := bcell hb1; have hz1 := hb1.size; (try simp at hz1); (try simp only [heap_drew, World.heap_drewN] at hz1); (try simp only [heap_drew, World.heap_drewN] at hc1); (try simp only [heap_drew, World.heap_drewN] at hf1); (try have hs1 := Nat.lt_of_succ_le hz1); (try have hs2 := Nat.lt_of_succ_lt hs1); (try have y0 : w.heap.size < w1.heap.size := by omega); (try have y1 : w.heap.size + 1 < w1.heap.size := by omega); (try have y2 : w.heap.size + 2 < w1.heap.size := by omega)) | (go_at_call 158; (with_reducible refine (S1.out _ ?_ ?_ ?_).mono ?_); (focus (exact HT.out.below (by (repeat' (first | assumption | exact Below.refl _ _ | exact Below.size (by assumption) | (refine Below.setCell ?_ ?_ _) | (refine Below.alloc ?_ ?_ _) | (refine Below.drew ?_) | (refine below_drewN ?_ _) | (refine Below.trans ?_ (Below.mono ‹Below _ _ _› ?_)) | omega | (simp; done) | (simp; omega) | (simp at *; omega)))) hb)); (focus (first | (simp [go_sem, *]; done) | (simp [*]; done))); (focus (first | assumption | omega)); rintro e w2 ⟨rfl, hb2⟩; obtain ⟨hc2, hf2⟩ := bcell hb2; have hz2 := hb2.size; have yb2 : b < w2.heap.size := (by have := hb1.size; simp at this; omega); have yw2 : w.heap.size < w2.heap.size := (by have := hb1.size; simp at this; omega)))
  have hbW : Below w.heap.size w w2 := by (repeat' (first | assumption | exact Below.refl _ _ | exact Below.size (by assumption) | (refine Below.setCell ?_ ?_ _) | (refine Below.alloc ?_ ?_ _) | (refine Below.drew ?_) | (refine below_drewN ?_ _) | (refine Below.trans ?_ (Below.mono ‹Below _ _ _› ?_)) | omega | (simp; done) | (simp; omega) | (simp at *; omega)))
  have HT2 := HT.out.below hbW hb
  have ax1 := (HT2.2 p hpn).1
  have ay1 := (HT2.2 p hpn).2
  have ax2 := (HT2.2 k hp).1
  have ay2 := (HT2.2 k hp).2
  have HBW := Lib.hid hbW
  have ayc : w2.cell? ⟨w.heap.size, 0, none⟩ = some (.int .i64 y) := by first | (simp [go_sem, *]; done) | (simp [*]; done)
  clear hc1 hc2 hf1 hf2 HT2 hx1 hy1 hx2 hy2 hbW
  go_cut [7, 8] from 30 to 38 (fun s t wx => ∃ g h : Nat, s = .pointer (some ⟨g, 0, none⟩) ∧ t = .pointer (some ⟨h, 0, none⟩) ∧ g < wx.heap.size ∧ h < wx.heap.size ∧ w.heap.size < wx.heap.size ∧ wx.cell? ⟨w.heap.size, 0, none⟩ = some (.int .i64 y) ∧ wx.cell? ⟨g, 0, none⟩ = some (.int .i64 (X p)) ∧ wx.cell? ⟨g, 1, none⟩ = some (.int .i64 (Y p)) ∧ wx.cell? ⟨h, 0, none⟩ = some (.int .i64 (X k)) ∧ wx.cell? ⟨h, 1, none⟩ = some (.int .i64 (Y k)) ∧ Below w.heap.size w wx)
  case first =>
    go_region
    all_goals (go_wp2_with fail; go_meet)
    all_goals (have hbW := HBW.out; exact ⟨_, _, rfl, rfl, by simp [heap_drew] <;> omega, by simp [heap_drew] <;> omega, by simp [heap_drew] <;> omega, cell_two ayc yw2, by simp, by simp, by simp, by simp, by (repeat' (first | assumption | exact Below.refl _ _ | exact Below.size (by assumption) | (refine Below.setCell ?_ ?_ _) | (refine Below.alloc ?_ ?_ _) | (refine Below.drew ?_) | (refine below_drewN ?_ _) | (refine Below.trans ?_ (Below.mono ‹Below _ _ _› ?_)) | omega | (simp; done) | (simp; omega) | (simp at *; omega)))⟩)
  case rest =>
    obtain ⟨g, h, rfl, rfl, hg, hh, hw, hyc, g0, g1, h0, h1, hbx⟩ := hcut
    go_wp2_with (first | (go_at_call 160; (with_reducible refine (S2.out _).mono ?_); rintro e w3 ⟨rfl, hb3⟩; obtain ⟨hc3, hf3⟩ := bcell hb3; have hz3 := hb3.size; (try simp at hz3); (try simp only [heap_drew, World.heap_drewN] at hz3); (try simp only [heap_drew, World.heap_drewN] at hc3); (try simp only [heap_drew, World.heap_drewN] at hf3); (try have hs1 := Nat.lt_of_succ_le hz3); (try have hs2 := Nat.lt_of_succ_lt hs1); (try have y0 : w.heap.size < w3.heap.size := by omega); (try have y1 : w.heap.size + 1 < w3.heap.size := by omega); (try have y2 : w.heap.size + 2 < w3.heap.size := by omega); (try have yg : g < w3.heap.size := by omega); (try have yh : h < w3.heap.size := by omega)))
    go_ret2
    refine ⟨rfl, ?_⟩
    (repeat' (first | assumption | exact Below.refl _ _ | exact Below.size (by assumption) | (refine Below.setCell ?_ ?_ _) | (refine Below.alloc ?_ ?_ _) | (refine Below.drew ?_) | (refine below_drewN ?_ _) | (refine Below.trans ?_ (Below.mono ‹Below _ _ _› ?_)) | omega | (simp; done) | (simp; omega) | (simp at *; omega)))
end Go.Proofs.YtfgakaielfekoaaGreatDoor

namespace Go.Proofs.YtfgakaielfekoaaGreatDoor
open Go.RowKit
set_option linter.unusedVariables false
set_option linter.unusedSimpArgs false

set_option maxRecDepth 100000 in
set_option maxHeartbeats 2000000 in
theorem tmost_none (b off n c m : Nat) (X Y : Nat → Int) (y : Int) (w : World) (hv : TabOK n X Y) (ht : TabAt w b off n X Y) (hs : FirstAt (fun j => decide (y < Y j)) n n) (hm : n = m + 1) :
    Calls Tryz.prog 124 #[.slice (some ⟨b, off, none⟩) n c, .int .i64 y] w fun e w' => e = .returned (.tuple #[.int .i64 (X m), .int .i64 0]) ∧ Below w.heap.size w w' := by
  have hv1 := hv.1
  have hv2 := hv.2.1
  have S0 := Lib.hid fun w ht => tvalid6 b off n c X Y w hv.1 hv.2.1 ht
  have tv := tabB_true hv
  have S1 := Lib.hid fun (w' : World) ht hy hg => findex_most b off n c n w.heap.size X Y y w' (by omega) ht hy hg hs (-1 : Int) (by first | rw [if_neg (by omega)] | (rw [if_pos (by omega)]; rfl))
  have HT := Lib.hid ht
  have hb := ht.1
  have e1 : IntKind.i64.wrap ((n : Int) - 1) = (m : Int) := by rw [IntKind.wrap_i64]; omega
  have k0 : (0 : Int) ≤ (m : Int) := by omega
  have k1 : (m : Int) < (n : Int) := by omega
  have hmn : m < n := by omega
  clear hs hv ht hv2 hm
  go_enter Tryz.func124, Tryz.ntmps124
  go_upto_region 6 with (first | (go_at_call 157; (with_reducible refine (S0.out _ ?_).mono ?_); (focus (exact HT.out.below (by (repeat' (first | assumption | exact Below.refl _ _ | exact Below.size (by assumption) | (refine Below.setCell ?_ ?_ _) | (refine Below.alloc ?_ ?_ _) | (refine Below.drew ?_) | (refine below_drewN ?_ _) | (refine Below.trans ?_ (Below.mono ‹Below _ _ _› ?_)) | omega | (simp; done) | (simp; omega) | (simp at *; omega)))) hb)); rintro e w1 ⟨rfl, hb1⟩; obtain ⟨hc1, hf1⟩ := bcell hb1; have hz1 := hb1.size; (try simp at hz1); (try simp only [heap_drew, World.heap_drewN] at hz1); (try simp only [heap_drew, World.heap_drewN] at hc1); (try simp only [heap_drew, World.heap_drewN] at hf1); (try have hs1 := Nat.lt_of_succ_le hz1); (try have hs2 := Nat.lt_of_succ_lt hs1); (try have y0 : w.heap.size < w1.heap.size := by omega); (try have y1 : w.heap.size + 1 < w1.heap.size := by omega); (try have y2 : w.heap.size + 2 < w1.heap.size := by omega)) | (go_at_call 158; (with_reducible refine (S1.out _ ?_ ?_ ?_).mono ?_); (focus (exact HT.out.below (by (repeat' (first | assumption | exact Below.refl _ _ | exact Below.size (by assumption) | (refine Below.setCell ?_ ?_ _) | (refine Below.alloc ?_ ?_ _) | (refine Below.drew ?_) | (refine below_drewN ?_ _) | (refine Below.trans ?_ (Below.mono ‹Below _ _ _› ?_)) | omega | (simp; done) | (simp; omega) | (simp at *; omega)))) hb)); (focus (first | (simp [go_sem, *]; done) | (simp [*]; done))); (focus (first | assumption | omega)); rintro e w2 ⟨rfl, hb2⟩; obtain ⟨hc2, hf2⟩ := bcell hb2; have hz2 := hb2.size; have yb2 : b < w2.heap.size := (by have := hb1.size; simp at this; omega); have yw2 : w.heap.size < w2.heap.size := (by have := hb1.size; simp at this; omega)))
  have hbW : Below w.heap.size w w2 := by (repeat' (first | assumption | exact Below.refl _ _ | exact Below.size (by assumption) | (refine Below.setCell ?_ ?_ _) | (refine Below.alloc ?_ ?_ _) | (refine Below.drew ?_) | (refine below_drewN ?_ _) | (refine Below.trans ?_ (Below.mono ‹Below _ _ _› ?_)) | omega | (simp; done) | (simp; omega) | (simp at *; omega)))
  have HT2 := HT.out.below hbW hb
  have ax := (HT2.2 m hmn).1
  have ay := (HT2.2 m hmn).2
  try simp at ax ay
  go_wp2_with fail
  go_ret2
  refine ⟨rfl, ?_⟩
  (repeat' (first | assumption | exact Below.refl _ _ | exact Below.size (by assumption) | (refine Below.setCell ?_ ?_ _) | (refine Below.alloc ?_ ?_ _) | (refine Below.drew ?_) | (refine below_drewN ?_ _) | (refine Below.trans ?_ (Below.mono ‹Below _ _ _› ?_)) | omega | (simp; done) | (simp; omega) | (simp at *; omega)))
set_option maxRecDepth 100000 in
set_option maxHeartbeats 2000000 in
theorem tmost_first (b off n c : Nat) (X Y : Nat → Int) (y : Int) (w : World) (hv : TabOK n X Y) (ht : TabAt w b off n X Y) (hs : FirstAt (fun j => decide (y < Y j)) n 0) :
    Calls Tryz.prog 124 #[.slice (some ⟨b, off, none⟩) n c, .int .i64 y] w fun e w' => e = .returned (.tuple #[.int .i64 0, .int .i64 12]) ∧ Below w.heap.size w w' := by
  have hv1 := hv.1
  have hv2 := hv.2.1
  have S0 := Lib.hid fun w ht => tvalid6 b off n c X Y w hv.1 hv.2.1 ht
  have tv := tabB_true hv
  have S1 := Lib.hid fun (w' : World) ht hy hg => findex_most b off n c 0 w.heap.size X Y y w' (by omega) ht hy hg hs (0 : Int) (by first | rw [if_neg (by omega)] | (rw [if_pos (by omega)]; rfl))
  have HT := Lib.hid ht
  have hb := ht.1
  clear hs hv ht hv2
  go_enter Tryz.func124, Tryz.ntmps124
  go_wp2_with (first | (go_at_call 157; (with_reducible refine (S0.out _ ?_).mono ?_); (focus (exact HT.out.below (by (repeat' (first | assumption | exact Below.refl _ _ | exact Below.size (by assumption) | (refine Below.setCell ?_ ?_ _) | (refine Below.alloc ?_ ?_ _) | (refine Below.drew ?_) | (refine below_drewN ?_ _) | (refine Below.trans ?_ (Below.mono ‹Below _ _ _› ?_)) | omega | (simp; done) | (simp; omega) | (simp at *; omega)))) hb)); rintro e w1 ⟨rfl, hb1⟩; obtain ⟨hc1, hf1⟩ := bcell hb1; have hz1 := hb1.size; (try simp at hz1); (try simp only [heap_drew, World.heap_drewN] at hz1); (try simp only [heap_drew, World.heap_drewN] at hc1); (try simp only [heap_drew, World.heap_drewN] at hf1); (try have hs1 := Nat.lt_of_succ_le hz1); (try have hs2 := Nat.lt_of_succ_lt hs1); (try have y0 : w.heap.size < w1.heap.size := by omega); (try have y1 : w.heap.size + 1 < w1.heap.size := by omega); (try have y2 : w.heap.size + 2 < w1.heap.size := by omega)) | (go_at_call 158; (with_reducible refine (S1.out _ ?_ ?_ ?_).mono ?_); (focus (exact HT.out.below (by (repeat' (first | assumption | exact Below.refl _ _ | exact Below.size (by assumption) | (refine Below.setCell ?_ ?_ _) | (refine Below.alloc ?_ ?_ _) | (refine Below.drew ?_) | (refine below_drewN ?_ _) | (refine Below.trans ?_ (Below.mono ‹Below _ _ _› ?_)) | omega | (simp; done) | (simp; omega) | (simp at *; omega)))) hb)); (focus (first | (simp [go_sem, *]; done) | (simp [*]; done))); (focus (first | assumption | omega)); rintro e w2 ⟨rfl, hb2⟩; obtain ⟨hc2, hf2⟩ := bcell hb2; have hz2 := hb2.size; have yb2 : b < w2.heap.size := (by have := hb1.size; simp at this; omega); have yw2 : w.heap.size < w2.heap.size := (by have := hb1.size; simp at this; omega)))
  go_ret2
  refine ⟨rfl, ?_⟩
  (repeat' (first | assumption | exact Below.refl _ _ | exact Below.size (by assumption) | (refine Below.setCell ?_ ?_ _) | (refine Below.alloc ?_ ?_ _) | (refine Below.drew ?_) | (refine below_drewN ?_ _) | (refine Below.trans ?_ (Below.mono ‹Below _ _ _› ?_)) | omega | (simp; done) | (simp; omega) | (simp at *; omega)))
end Go.Proofs.YtfgakaielfekoaaGreatDoor

namespace Go.Proofs.YtfgakaielfekoaaGreatDoor
open Go.RowKit
set_option linter.unusedVariables false
set_option linter.unusedSimpArgs false
set_option maxHeartbeats 1000000

end Go.Proofs.YtfgakaielfekoaaGreatDoor

namespace Go.Proofs.YtfgakaielfekoaaGreatDoor
open Go.RowKit
set_option linter.unusedVariables false
set_option linter.unusedSimpArgs false

theorem rmost_none (b off n c : Nat) (X Y : Nat → Int) (y : Int) (w : World) (h1 : 1 ≤ n) (ht : TabAt w b off n X Y) (hy : y < Y 0) :
    Calls Tryz.prog 113 #[.slice (some ⟨b, off, none⟩) n c, .int .i64 y] w fun e w' => e = .returned (.tuple #[.int .i64 0, .bool false]) ∧ Below w.heap.size w w' := by
  have hx0 := (ht.2 0 (by omega)).1
  have hy0 := (ht.2 0 (by omega)).2
  simp only [Nat.zero_mul, Nat.add_zero] at hx0 hy0
  have hb := ht.1
  have T := decide_eq_true hy
  have T0 : (0 : Int) < (n : Int) := by omega
  clear ht hy
  go_enter Tryz.func113, Tryz.ntmps113
  go_wp2_with fail
  go_ret2
  refine ⟨rfl, ?_⟩
  (repeat' (first | assumption | exact Below.refl _ _ | exact Below.size (by assumption) | (refine Below.setCell ?_ ?_ _) | (refine Below.alloc ?_ ?_ _) | (refine Below.drew ?_) | (refine below_drewN ?_ _) | (refine Below.trans ?_ (Below.mono ‹Below _ _ _› ?_)) | omega | (simp; done) | (simp; omega) | (simp at *; omega)))

set_option maxHeartbeats 2000000 in
set_option maxRecDepth 100000 in
theorem rmost_last (b off n m c : Nat) (X Y : Nat → Int) (y : Int) (w : World) (hn : n = m + 1) (h2 : n ≤ 100) (ht : TabAt w b off n X Y) (h0 : Y 0 ≤ y) (hK : BInv Y y n m) :
    Calls Tryz.prog 113 #[.slice (some ⟨b, off, none⟩) n c, .int .i64 y] w fun e w' => e = .returned (.tuple #[.int .i64 (X m), .bool true]) ∧ Below w.heap.size w w' := by
  have HT := Lib.hid ht
  have HK := Lib.hid hK
  have H2 := Lib.hid h2
  have H0 := Lib.hid h0
  have H1 : Hid (1 ≤ n) := by show 1 ≤ n; omega
  have hy0 := (ht.2 0 (by omega)).2
  simp only [Nat.zero_mul, Nat.add_zero] at hy0
  have hb := ht.1
  have T : decide (y < Y 0) = false := decide_eq_false (by omega)
  have T0 : (0 : Int) < (n : Int) := by omega
  have hx1 := (HT.out.2 m (by omega)).1
  have e1 : IntKind.i64.wrap ((n : Int) - 1) = (m : Int) := by rw [IntKind.wrap_i64]; omega
  have k0 : (0 : Int) ≤ (m : Int) := by omega
  have k1 : (m : Int) < (n : Int) := by omega
  clear ht h2 hn h0 hK
  go_enter Tryz.func113, Tryz.ntmps113
  go_wp2_with fail
  go_loop [6, 7] (fun u v => ∃ (i : Nat) (L : Int), Hid ((i = 0 ∧ L = 0) ∨ BInv Y y i L) ∧ Hid (i ≤ n) ∧ u = .int .i64 L ∧ v = .int .i64 i) (fun _ v => n - (intOf v).toNat)
  case atStart => exact ⟨0, 0, .inl ⟨rfl, rfl⟩, Nat.zero_le _, rfl, rfl⟩
  case round =>
    obtain ⟨i, L, HL, Hi, rfl, rfl⟩ := hrel
    by_cases hlt : i < n
    · have T0 : decide ((i : Int) < (n : Int)) = true := by simp <;> omega
      have T0' : decide (i < n) = true := decide_eq_true hlt
      obtain ⟨i', hi'⟩ : ∃ z, z = i + 1 := ⟨_, rfl⟩
      have x0 : IntKind.i64.wrap ((i : Int) + 1) = (i' : Int) := by have := H2.out; rw [IntKind.wrap_i64]; omega
      have hY := (HT.out.2 i hlt).2
      have HI' : Hid (i' ≤ n) := by show i' ≤ n; omega
      have HMS : Hid (n - (intOf (Value.int .i64 (i' : Int))).toNat < n - (intOf (Value.int .i64 (i : Int))).toNat) := by show _ < _; simp [intOf]; omega
      by_cases hx : Y i ≤ y
      · have TY := decide_eq_true hx
        have HL' : Hid ((i' = 0 ∧ (i : Int) = 0) ∨ BInv Y y i' i) := by rw [hi']; exact .inr (binv_yes hx)
        clear hi' hx
        go_wp2_with fail
        go_round
        case rel => exact ⟨i', _, HL', HI', rfl, rfl⟩
        case measure => exact HMS.out
      · have TY := decide_eq_false hx
        have HL' : Hid ((i' = 0 ∧ L = 0) ∨ BInv Y y i' L) := by
          rw [hi']
          rcases HL.out with ⟨e, _⟩ | h
          · subst e; exact absurd H0.out hx
          · exact .inr (binv_no h (by omega))
        clear hi' hx
        go_wp2_with fail
        go_round
        case rel => exact ⟨i', _, HL', HI', rfl, rfl⟩
        case measure => exact HMS.out
    · obtain rfl : i = n := by have := Hi.out; omega
      obtain rfl : L = (m : Int) := by
        rcases HL.out with ⟨e, _⟩ | h
        · have := H1.out; omega
        · exact binv_uniq h HK.out
      have T0' : decide (i < i) = false := decide_eq_false (Nat.lt_irrefl i)
      clear hlt
      go_wp2_with fail
      go_ret2
      refine ⟨rfl, ?_⟩
      (repeat' (first | assumption | exact Below.refl _ _ | exact Below.size (by assumption) | (refine Below.setCell ?_ ?_ _) | (refine Below.alloc ?_ ?_ _) | (refine Below.drew ?_) | (refine below_drewN ?_ _) | (refine Below.trans ?_ (Below.mono ‹Below _ _ _› ?_)) | omega | (simp; done) | (simp; omega) | (simp at *; omega)))

set_option maxHeartbeats 2000000 in
set_option maxRecDepth 100000 in
theorem rmost_mid (b off n c p T D U : Nat) (X Y : Nat → Int) (y : Int) (w : World) (hv : TabOK n X Y) (ht : TabAt w b off n X Y) (hp : p + 1 < n) (h0 : Y 0 ≤ y) (hK : BInv Y y n p)
    (eT : y - Y p = (T : Int)) (eD : X (p + 1) - X p = (D : Int)) (eU : Y (p + 1) - Y p = (U : Int)) (bT : T ≤ U) (hU : 0 < U) (v : Int) (hvv : v = X p + ((T * D / U : Nat) : Int)) :
    Calls Tryz.prog 113 #[.slice (some ⟨b, off, none⟩) n c, .int .i64 y] w fun e w' => e = .returned (.tuple #[.int .i64 v, .bool true]) ∧ Below w.heap.size w w' := by
  have bp := in_of hv (by omega : p < n)
  have bp1 := in_of hv hp
  have h2 := hv.2.1
  obtain ⟨k, hk⟩ : ∃ k, k = p + 1 := ⟨_, rfl⟩
  obtain ⟨m, hm⟩ : ∃ m, n = m + 1 := ⟨n - 1, by omega⟩
  rw [← hk] at hp eD eU bp1
  obtain ⟨q1, q2, q3⟩ := inv_bounds (T := T) (D := D) (U := U) bT (by omega) (by omega) hU
  obtain ⟨hi, hhi⟩ : ∃ z, T * D / U = z := ⟨_, rfl⟩
  rw [hhi] at q2 hvv
  have SC := Lib.hid fun w => rfloorof T D U hi (by omega) (by omega) (by omega) hU hhi (by omega) w
  have HT := Lib.hid ht
  have HK := Lib.hid hK
  have H2 := Lib.hid h2
  have H0 := Lib.hid h0
  have H1 : Hid (1 ≤ n) := by show 1 ≤ n; omega
  have hb := ht.1
  have hpn : p < n := by omega
  have hx1 := (HT.out.2 p hpn).1
  have hy1 := (HT.out.2 p hpn).2
  have hx2 := (HT.out.2 k hp).1
  have hy2 := (HT.out.2 k hp).2
  have e1 : IntKind.i64.wrap ((p : Int) + 1) = (k : Int) := by rw [IntKind.wrap_i64]; omega
  have e2 : IntKind.i64.wrap (y - Y p) = (T : Int) := by rw [eT]; exact wrap_id (by omega) (by omega)
  have e3 : IntKind.i64.wrap (X k - X p) = (D : Int) := by rw [eD]; exact wrap_id (by omega) (by omega)
  have e4 : IntKind.i64.wrap (Y k - Y p) = (U : Int) := by rw [eU]; exact wrap_id (by omega) (by omega)
  have e5 : IntKind.i64.wrap (X p + (hi : Int)) = v := by rw [hvv]; exact wrap_id (by omega) (by omega)
  have e6 : IntKind.i64.wrap ((n : Int) - 1) = (m : Int) := by rw [IntKind.wrap_i64]; omega
  have k0 : (0 : Int) ≤ (p : Int) := by omega
  have k1 : (p : Int) < (n : Int) := by omega
  have k2 : (0 : Int) ≤ (k : Int) := by omega
  have k3 : (k : Int) < (n : Int) := by omega
  have t1 : ((p : Int) == (m : Int)) = false := by simp <;> omega
  have t2 : ¬ p = m := by omega
  have hy0 := (ht.2 0 (by omega)).2
  simp only [Nat.zero_mul, Nat.add_zero] at hy0
  have TF : decide (y < Y 0) = false := decide_eq_false (by omega)
  have TN : (0 : Int) < (n : Int) := by omega
  clear hv ht bp bp1 h2 q1 q2 q3 hhi hvv eT eD eU bT hU hk hm h0 hK
  go_enter Tryz.func113, Tryz.ntmps113
  go_wp2_with fail
  go_loop [6, 7] (fun u v => ∃ (i : Nat) (L : Int), Hid ((i = 0 ∧ L = 0) ∨ BInv Y y i L) ∧ Hid (i ≤ n) ∧ u = .int .i64 L ∧ v = .int .i64 i) (fun _ v => n - (intOf v).toNat)
  case atStart => exact ⟨0, 0, .inl ⟨rfl, rfl⟩, Nat.zero_le _, rfl, rfl⟩
  case round =>
    obtain ⟨i, L, HL, Hi, rfl, rfl⟩ := hrel
    by_cases hlt : i < n
    · have T0 : decide ((i : Int) < (n : Int)) = true := by simp <;> omega
      have T0' : decide (i < n) = true := decide_eq_true hlt
      obtain ⟨i', hi'⟩ : ∃ z, z = i + 1 := ⟨_, rfl⟩
      have x0 : IntKind.i64.wrap ((i : Int) + 1) = (i' : Int) := by have := H2.out; rw [IntKind.wrap_i64]; omega
      have hY := (HT.out.2 i hlt).2
      have HI' : Hid (i' ≤ n) := by show i' ≤ n; omega
      have HMS : Hid (n - (intOf (Value.int .i64 (i' : Int))).toNat < n - (intOf (Value.int .i64 (i : Int))).toNat) := by show _ < _; simp [intOf]; omega
      by_cases hx : Y i ≤ y
      · have TY := decide_eq_true hx
        have HL' : Hid ((i' = 0 ∧ (i : Int) = 0) ∨ BInv Y y i' i) := by rw [hi']; exact .inr (binv_yes hx)
        clear hi' hx
        go_wp2_with fail
        go_round
        case rel => exact ⟨i', _, HL', HI', rfl, rfl⟩
        case measure => exact HMS.out
      · have TY := decide_eq_false hx
        have HL' : Hid ((i' = 0 ∧ L = 0) ∨ BInv Y y i' L) := by
          rw [hi']
          rcases HL.out with ⟨e, _⟩ | h
          · subst e; exact absurd H0.out hx
          · exact .inr (binv_no h (by omega))
        clear hi' hx
        go_wp2_with fail
        go_round
        case rel => exact ⟨i', _, HL', HI', rfl, rfl⟩
        case measure => exact HMS.out
    · obtain rfl : i = n := by have := Hi.out; omega
      obtain rfl : L = (p : Int) := by
        rcases HL.out with ⟨e, _⟩ | h
        · have := H1.out; omega
        · exact binv_uniq h HK.out
      have T0' : decide (i < i) = false := decide_eq_false (Nat.lt_irrefl i)
      clear hlt
      go_upto_region 11 with fail
      go_still_tail 31, (by kernel_rfl)
      change wpList _ _ _ _ _ w.drew
      go_wp2_with (first | (go_at_call 149; (with_reducible refine (SC.out _).mono ?_); rintro e w1 ⟨rfl, hb1⟩; obtain ⟨hc1, hf1⟩ := bcell hb1; have hz1 := hb1.size; (try simp at hz1); (try simp only [heap_drew, World.heap_drewN] at hz1); (try simp only [heap_drew, World.heap_drewN] at hc1); (try simp only [heap_drew, World.heap_drewN] at hf1); (try have hs1 := Nat.lt_of_succ_le hz1); (try have hs2 := Nat.lt_of_succ_lt hs1); (try have y0 : w.heap.size < w1.heap.size := by omega); (try have y1 : w.heap.size + 1 < w1.heap.size := by omega); (try have y2 : w.heap.size + 2 < w1.heap.size := by omega); (try have yb : b < w1.heap.size := by omega)))
      all_goals (go_ret2; refine ⟨rfl, ?_⟩; (repeat' (first | assumption | exact Below.refl _ _ | exact Below.size (by assumption) | (refine Below.setCell ?_ ?_ _) | (refine Below.alloc ?_ ?_ _) | (refine Below.drew ?_) | (refine below_drewN ?_ _) | (refine Below.trans ?_ (Below.mono ‹Below _ _ _› ?_)) | omega | (simp; done) | (simp; omega) | (simp at *; omega))))
end Go.Proofs.YtfgakaielfekoaaGreatDoor

namespace Go.Proofs.YtfgakaielfekoaaGreatDoor
open Go.RowKit
set_option linter.unusedVariables false
set_option linter.unusedSimpArgs false

def MostIs (X Y : Nat → Int) (m : Nat) (y v e : Int) : Prop := (Val.MostAt X Y m y v ∧ e = 0) ∨ (y < Y 0 ∧ v = 0 ∧ e = 12)
def isOK (e : Int) : Bool := decide (e = 0)

theorem most_both (m : Nat) (X Y : Nat → Int) (y : Int) (hv : TabOK (m + 1) X Y) : ∃ v e, MostIs X Y m y v e ∧
    ∀ (b off c : Nat) (w : World), TabAt w b off (m + 1) X Y →
      (Calls Tryz.prog 124 #[.slice (some ⟨b, off, none⟩) (m + 1 : Nat) c, .int .i64 y] w fun e' w' => e' = .returned (.tuple #[.int .i64 v, .int .i64 e]) ∧ Below w.heap.size w w') ∧
      (Calls Tryz.prog 113 #[.slice (some ⟨b, off, none⟩) (m + 1 : Nat) c, .int .i64 y] w fun e' w' => e' = .returned (.tuple #[.int .i64 v, .bool (isOK e)]) ∧ Below w.heap.size w w') := by
  have ha := asc_of hv
  obtain ⟨k, hk⟩ := first_ex (fun j => decide (y < Y j)) (m + 1)
  rcases Nat.lt_or_ge k (m + 1) with h1 | h1
  · have hy := of_decide_eq_true (hk.2.2 h1)
    rcases Nat.eq_zero_or_pos k with h0 | h0
    · subst h0
      exact ⟨0, 12, .inr ⟨hy, rfl, rfl⟩, fun b off c w ht => ⟨tmost_first b off (m + 1) c X Y y w hv ht hk, rmost_none b off (m + 1) c X Y y w (by omega) ht hy⟩⟩
    · obtain ⟨p, rfl⟩ : ∃ p, k = p + 1 := ⟨k - 1, by omega⟩
      have hyp := of_decide_eq_false (hk.2.1 p (by omega))
      have hy0 := of_decide_eq_false (hk.2.1 0 (by omega))
      have hap := ha p (by omega)
      have hB : BInv Y y (m + 1) p := .inr ⟨p, by omega, rfl, by omega, fun j hj hj' => by have := (ha.mono (by omega : j ≤ m) (by omega : p + 1 ≤ j)).2; omega⟩
      obtain ⟨T, eT⟩ : ∃ U : Nat, y - Y p = (U : Int) := ⟨(y - Y p).toNat, by omega⟩
      obtain ⟨D, eD⟩ : ∃ U : Nat, X (p + 1) - X p = (U : Int) := ⟨(X (p + 1) - X p).toNat, by omega⟩
      obtain ⟨U, eU⟩ : ∃ U : Nat, Y (p + 1) - Y p = (U : Int) := ⟨(Y (p + 1) - Y p).toNat, by omega⟩
      have hU : 0 < U := by omega
      have e : X p + ((T * D / U : Nat) : Int) = X p + ((y - Y p) * (X (p + 1) - X p)) / (Y (p + 1) - Y p) := by
        rw [eT, eD, eU, Int.natCast_ediv, ← Int.natCast_mul]
      exact ⟨_, 0, .inl ⟨.inr ⟨p, by omega, by omega, hy, rfl⟩, rfl⟩, fun b off c w ht =>
        ⟨tmost_mid b off (m + 1) c p T D U X Y y w hv ht h1 hk eT eD eU (by omega) hU _ e.symm, rmost_mid b off (m + 1) c p T D U X Y y w hv ht h1 (by omega) hB eT eD eU (by omega) hU _ e.symm⟩⟩
  · have : k = m + 1 := by have := hk.1; omega
    subst this
    have hy := of_decide_eq_false (hk.2.1 m (by omega))
    have hy0 := of_decide_eq_false (hk.2.1 0 (by omega))
    have hB : BInv Y y (m + 1) m := .inr ⟨m, by omega, rfl, by omega, fun j hj hj' => absurd hj' (by omega)⟩
    exact ⟨X m, 0, .inl ⟨.inl ⟨by omega, rfl⟩, rfl⟩, fun b off c w ht => ⟨tmost_none b off (m + 1) c m X Y y w hv ht hk rfl, rmost_last b off (m + 1) m c X Y y w rfl hv.2.1 ht (by omega) hB⟩⟩
end Go.Proofs.YtfgakaielfekoaaGreatDoor

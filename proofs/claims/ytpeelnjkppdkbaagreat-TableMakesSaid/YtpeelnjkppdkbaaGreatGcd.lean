/- The greatest common divisor, and fractions in lowest terms: by the packages table and ratio, and by the reference. -/
import Derived.Test.YtpeelnjkppdkbaaGreatCircle
import Derived.Deep.QuietTactic
import Derived.BigQuiet
import Derived.RegionTactic
namespace Go.Proofs.YtpeelnjkppdkbaaGreat
open Go.RowKit
set_option linter.unusedVariables false
set_option linter.unusedSimpArgs false

theorem gcd_step {x y : Nat} : Nat.gcd y (x % y) = Nat.gcd x y := by
  rw [Nat.gcd_comm y, ← Nat.gcd_rec, Nat.gcd_comm]
theorem tmod_nat (x y : Nat) : Int.tmod (x : Int) (y : Int) = ((x % y : Nat) : Int) := by
  rw [Int.tmod_eq_emod_of_nonneg (by omega)]; rfl
theorem tdiv_nat (x y : Nat) : Int.tdiv (x : Int) (y : Int) = ((x / y : Nat) : Int) := by
  rw [Int.tdiv_eq_ediv_of_nonneg (by omega)]; rfl

/-- What the gcd's loop keeps. -/
def GInv (a b x y : Nat) : Prop := Nat.gcd x y = Nat.gcd a b ∧ x ≤ max a b ∧ y ≤ max a b
theorem ginv_step {a b x y : Nat} (h : GInv a b x y) (hy : y ≠ 0) : GInv a b y (x % y) ∧ x % y < y :=
  ⟨⟨gcd_step.trans h.1, h.2.2, by have := Nat.mod_lt x (by omega : 0 < y); have := h.2.2; omega⟩, Nat.mod_lt x (by omega)⟩
theorem ginv_end {a b x : Nat} (h : GInv a b x 0) : x = Nat.gcd a b := by rw [← h.1, Nat.gcd_zero_right]

set_option maxHeartbeats 1000000 in
theorem tgcd (a b g : Nat) (ha : a < 9223372036854775808) (hb : b < 9223372036854775808) (hg : g = Nat.gcd a b) (w : World) :
    Calls Tryz.prog 32 #[.int .i64 (a : Int), .int .i64 (b : Int)] w fun e w' => e = .returned (.int .i64 (g : Int)) ∧ Below w.heap.size w w' := by
  have HA := Lib.hid ha
  have HB := Lib.hid hb
  have HG := Lib.hid hg
  clear ha hb hg
  go_enter Tryz.func32, Tryz.ntmps32
  go_wp2_with fail
  go_loopw [0, 1] (fun u v wr => ∃ x y : Nat, Hid (GInv a b x y) ∧ u = .int .i64 x ∧ v = .int .i64 y ∧ Hid (Below w.heap.size w wr)) (fun _ v _ => (intOf v).toNat)
  case atStart => exact ⟨a, b, ⟨rfl, by omega, by omega⟩, rfl, rfl, Below.refl _ _⟩
  case round =>
    obtain ⟨x, y, HI, rfl, rfl, HW⟩ := hrel
    by_cases hy : y = 0
    · subst hy
      have e := ginv_end HI.out
      rw [← HG.out] at e
      subst e
      go_wp2_with fail
      go_ret
      exact ⟨rfl, HW.out⟩
    · have t1 : ((y : Int) == 0) = false := by simp <;> omega
      have t2 : ¬ (y : Int) = 0 := by omega
      obtain ⟨h1, h2⟩ := ginv_step HI.out hy
      have e1 := tmod_nat x y
      obtain ⟨r, hr⟩ : ∃ z, z = x % y := ⟨_, rfl⟩
      rw [← hr] at h1 h2 e1
      have b1 : r < 9223372036854775808 := by have := HA.out; have := HB.out; have := h1.2.2; omega
      have e2 : IntKind.i64.wrap (r : Int) = (r : Int) := by rw [IntKind.wrap_i64]; omega
      have H1 := Lib.hid h1
      have HMS : Hid ((intOf (Value.int .i64 (r : Int))).toNat < (intOf (Value.int .i64 (y : Int))).toNat) := by show _ < _; simp [intOf]; omega
      clear hr h1 h2 hy b1
      go_wp2_with fail
      go_quiet (fail)
      go_wp2_with fail
      go_roundw
      case rel => exact ⟨y, r, H1, rfl, rfl, below_drewN HW.out _⟩
      case measure => exact HMS.out

set_option maxHeartbeats 1000000 in
theorem ugcd (a b g : Nat) (ha : a < 18446744073709551616) (hb : b < 18446744073709551616) (hg : g = Nat.gcd a b) (w : World) :
    Calls Tryz.prog 54 #[.int .u64 (a : Int), .int .u64 (b : Int)] w fun e w' => e = .returned (.int .u64 (g : Int)) ∧ Below w.heap.size w w' := by
  have HA := Lib.hid ha
  have HB := Lib.hid hb
  have HG := Lib.hid hg
  clear ha hb hg
  go_enter Tryz.func54, Tryz.ntmps54
  go_wp2_with fail
  go_loopw [0, 1] (fun u v wr => ∃ x y : Nat, Hid (GInv a b x y) ∧ u = .int .u64 x ∧ v = .int .u64 y ∧ Hid (Below w.heap.size w wr)) (fun _ v _ => (intOf v).toNat)
  case atStart => exact ⟨a, b, ⟨rfl, by omega, by omega⟩, rfl, rfl, Below.refl _ _⟩
  case round =>
    obtain ⟨x, y, HI, rfl, rfl, HW⟩ := hrel
    by_cases hy : y = 0
    · subst hy
      have e := ginv_end HI.out
      rw [← HG.out] at e
      subst e
      go_wp2_with fail
      go_ret
      exact ⟨rfl, HW.out⟩
    · have t1 : ((y : Int) == 0) = false := by simp <;> omega
      have t2 : ¬ (y : Int) = 0 := by omega
      obtain ⟨h1, h2⟩ := ginv_step HI.out hy
      have e1 := tmod_nat x y
      have e3 : (x : Int) % (y : Int) = ((x % y : Nat) : Int) := rfl
      obtain ⟨r, hr⟩ : ∃ z, z = x % y := ⟨_, rfl⟩
      rw [← hr] at h1 h2 e1 e3
      have b1 : r < 18446744073709551616 := by have := HA.out; have := HB.out; have := h1.2.2; omega
      have e2 : IntKind.u64.wrap (r : Int) = (r : Int) := by rw [IntKind.wrap_u64]; omega
      have H1 := Lib.hid h1
      have HMS : Hid ((intOf (Value.int .u64 (r : Int))).toNat < (intOf (Value.int .u64 (y : Int))).toNat) := by show _ < _; simp [intOf]; omega
      clear hr h1 h2 hy b1
      go_wp2_with fail
      go_quiet (fail)
      go_wp2_with fail
      go_roundw
      case rel => exact ⟨y, r, H1, rfl, rfl, below_drewN HW.out _⟩
      case measure => exact HMS.out
end Go.Proofs.YtpeelnjkppdkbaaGreat

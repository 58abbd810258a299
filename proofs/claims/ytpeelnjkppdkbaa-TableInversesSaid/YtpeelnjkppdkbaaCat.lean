/- The numbers of 128 bits of the catalogue: products, quotients, roots. -/
import Derived.Test.YtpeelnjkppdkbaaWide
import Derived.LoopTactic
namespace Go.Proofs.Ytpeelnjkppdkbaa
open Go.RowKit
set_option linter.unusedVariables false
set_option linter.unusedSimpArgs false

theorem u64_of_nat (a : Nat) (ha : a < 9223372036854775808) : IntKind.u64.wrap (a : Int) = (a : Int) := Half.wrapN _ (by omega)
theorem mul_parts {z n : Nat} (h : z * n < 340282366920938463463374607431768211456) :
    (z % 18446744073709551616 * n) % 18446744073709551616 = (z * n) % 18446744073709551616 ∧
    (z % 18446744073709551616 * n) / 18446744073709551616 + z / 18446744073709551616 * n = (z * n) / 18446744073709551616 ∧ z / 18446744073709551616 * n < 18446744073709551616 ∧ (z * n) / 18446744073709551616 < 18446744073709551616 := by
  have e : z * n = z / 18446744073709551616 * n * 18446744073709551616 + z % 18446744073709551616 * n := by
    have := Nat.div_add_mod' z 18446744073709551616
    rw [Nat.mul_right_comm, ← Nat.add_mul, this]
  generalize z / 18446744073709551616 * n = A at *
  generalize z % 18446744073709551616 * n = B at *
  generalize z * n = P at *
  subst e
  refine ⟨by omega, by omega, by omega, by omega⟩
theorem over_parts {z n : Nat} (hn : 0 < n) :
    hi64 (z / n) = ((z / 18446744073709551616 / n : Nat) : Int) ∧ lo64 (z / n) = (((z / 18446744073709551616 % n * 18446744073709551616 + z % 18446744073709551616) / n : Nat) : Int) := by
  obtain ⟨h1, _⟩ := Num.two_digits (N := z) (n := z / 18446744073709551616) (d0 := z % 18446744073709551616) (B := 18446744073709551616) hn (Nat.div_add_mod' _ _).symm
  have h2 : (z / 18446744073709551616 % n * 18446744073709551616 + z % 18446744073709551616) / n < 18446744073709551616 :=
    Num.quot_lt (Nat.mod_lt _ hn) (Nat.mod_lt _ (by omega)) rfl
  unfold hi64 lo64
  generalize (z / 18446744073709551616 % n * 18446744073709551616 + z % 18446744073709551616) / n = q at *
  generalize z / 18446744073709551616 / n = p at *
  generalize z / n = r at *
  subst h1
  constructor <;> congr 1 <;> omega
/-- The search for a root, bit by bit: j bits are still to be asked. -/
def RInv (x j r : Nat) : Prop := r * r ≤ x ∧ x < (r + 2 ^ j) * (r + 2 ^ j) ∧ r % 2 ^ j = 0
theorem rinv_start {x : Nat} (h : x < 85070591730234615865843651857942052864) : RInv x 63 0 := by
  refine ⟨by omega, ?_, rfl⟩
  simpa using h
theorem rinv_bound {x j r : Nat} (h : x < 85070591730234615865843651857942052864) (hi : RInv x j r) : r < 9223372036854775808 :=
  Num.sq_lt (Nat.lt_of_le_of_lt hi.1 (by simpa using h))
theorem rinv_add {x j r : Nat} (hi : RInv x (j + 1) r) : r % 2 ^ j = 0 ∧ (r + 2 ^ j) % 2 ^ j = 0 := by
  have h := hi.2.2
  rw [Nat.pow_succ] at h
  have : r % 2 ^ j = 0 := by
    have h2 := Nat.mod_mul_right_mod r (2 ^ j) 2
    rw [h] at h2
    simpa using h2.symm
  exact ⟨this, by rw [Nat.add_mod_right]; exact this⟩
theorem rinv_yes {x j r : Nat} (hi : RInv x (j + 1) r) (h : (r + 2 ^ j) * (r + 2 ^ j) ≤ x) : RInv x j (r + 2 ^ j) := by
  refine ⟨h, ?_, (rinv_add hi).2⟩
  have := hi.2.1
  rw [Nat.pow_succ] at this
  rw [Nat.add_assoc]
  rwa [Nat.mul_two] at this
theorem rinv_no {x j r : Nat} (hi : RInv x (j + 1) r) (h : x < (r + 2 ^ j) * (r + 2 ^ j)) : RInv x j r := ⟨hi.1, h, (rinv_add hi).1⟩
theorem rinv_end {x r : Nat} (hi : RInv x 0 r) : r = Num.isq x := Num.isq_eq hi.1 (by simpa using hi.2.1)

end Go.Proofs.Ytpeelnjkppdkbaa

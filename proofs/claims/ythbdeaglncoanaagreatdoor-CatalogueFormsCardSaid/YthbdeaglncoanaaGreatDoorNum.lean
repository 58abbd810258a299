/- Plain arithmetic of the long division by halves, and of shifted numbers. No program stands here, and no condition beyond each lemma's own. -/
import Derived.Lib.ItoaNum
import Derived.Laws.BitsAllLaws
namespace Go.Proofs.YthbdeaglncoanaaGreatDoor.Num

/-- The state of a search for a digit of a quotient: u is the high part, d the next half, y1 and y0 the divisor's halves. -/
def DInv6 (y1 y0 u d q r : Nat) : Prop := q * y1 + r = u ∧ r < 4294967296 ∧ (u * 4294967296 + d) / (y1 * 4294967296 + y0) ≤ q ∧ q ≤ 4294967297

theorem dstart {y1 y0 u d : Nat} (hu : u < y1 * 4294967296 + y0) (h1 : 2147483648 ≤ y1) (h1' : y1 < 4294967296) (h0 : y0 < 4294967296) (hd : d < 4294967296) : DInv6 y1 y0 u d (u / y1) (u % y1) := by
  have hp : 0 < y1 := by omega
  refine ⟨Nat.div_add_mod' u y1, by have := Nat.mod_lt u hp; omega, ?_, ?_⟩
  · have e : (u * 4294967296 + d) / (y1 * 4294967296) = u / y1 := by
      rw [Nat.mul_comm y1, ← Nat.div_div_eq_div_mul]
      congr 1; omega
    rw [← e]
    exact Nat.div_le_div_left (Nat.le_add_right _ _) (by omega)
  · have : u / y1 < 4294967298 := by
      rw [Nat.div_lt_iff_lt_mul hp]
      omega
    omega
theorem dstop {y1 y0 u d q r : Nat} (h : DInv6 y1 y0 u d q r) (h1 : 0 < y1) (ht : q * y0 ≤ 4294967296 * r + d) : q = (u * 4294967296 + d) / (y1 * 4294967296 + y0) := by
  obtain ⟨he, hr, hQ, hq⟩ := h
  refine Nat.le_antisymm ?_ hQ
  rw [Nat.le_div_iff_mul_le (by omega), Nat.mul_add, ← Nat.mul_assoc]
  have : u * 4294967296 = q * y1 * 4294967296 + r * 4294967296 := by rw [← he, Nat.add_mul]
  omega
theorem dbig {y1 y0 u d q : Nat} (hu : u < y1 * 4294967296 + y0) (hd : d < 4294967296) (hq : 4294967296 ≤ q) : (u * 4294967296 + d) / (y1 * 4294967296 + y0) < q := by
  rw [Nat.div_lt_iff_lt_mul (by omega)]
  have := Nat.mul_le_mul_right (y1 * 4294967296 + y0) hq
  omega
theorem dover {y1 y0 u d q r : Nat} (h : DInv6 y1 y0 u d q r) (h1 : 0 < y1) (ht : 4294967296 * r + d < q * y0) : (u * 4294967296 + d) / (y1 * 4294967296 + y0) < q := by
  obtain ⟨he, hr, hQ, hq⟩ := h
  rw [Nat.div_lt_iff_lt_mul (by omega), Nat.mul_add, ← Nat.mul_assoc]
  have : u * 4294967296 = q * y1 * 4294967296 + r * 4294967296 := by rw [← he, Nat.add_mul]
  omega
theorem dpos {y1 y0 u d q r : Nat} (hQ : (u * 4294967296 + d) / (y1 * 4294967296 + y0) < q) (h : DInv6 y1 y0 u d q r) : 1 ≤ q ∧ (q - 1) * y1 + (r + y1) = u := by
  obtain ⟨he, _⟩ := h
  have h1 : 1 ≤ q := Nat.lt_of_le_of_lt (Nat.zero_le _) hQ
  refine ⟨h1, ?_⟩
  obtain ⟨p, rfl⟩ : ∃ p, q = p + 1 := ⟨q - 1, by omega⟩
  rw [Nat.add_mul] at he
  simp only [Nat.add_sub_cancel]; omega
theorem dnext {y1 y0 u d q r : Nat} (h : DInv6 y1 y0 u d q r) (hQ : (u * 4294967296 + d) / (y1 * 4294967296 + y0) < q) (hr : r + y1 < 4294967296) : DInv6 y1 y0 u d (q - 1) (r + y1) := by
  obtain ⟨h1, h2⟩ := dpos hQ h
  obtain ⟨_, _, _, hq⟩ := h
  exact ⟨h2, hr, by omega, by omega⟩
theorem dbreak {y1 y0 u d q r : Nat} (h : DInv6 y1 y0 u d q r) (hQ : (u * 4294967296 + d) / (y1 * 4294967296 + y0) < q) (h1 : 0 < y1) (h0 : y0 < 4294967296) (hr : 4294967296 ≤ r + y1) : q - 1 = (u * 4294967296 + d) / (y1 * 4294967296 + y0) := by
  obtain ⟨h1', h2⟩ := dpos hQ h
  obtain ⟨_, _, _, hq⟩ := h
  refine Nat.le_antisymm ?_ (by omega)
  rw [Nat.le_div_iff_mul_le (by omega), Nat.mul_add, ← Nat.mul_assoc]
  have e : u * 4294967296 = (q - 1) * y1 * 4294967296 + (r + y1) * 4294967296 := by rw [← h2, Nat.add_mul]
  have : (q - 1) * y0 ≤ 4294967296 * y0 := Nat.mul_le_mul_right _ (by omega)
  omega
/-- Two digits make the quotient. -/
theorem two_digits {B N n d0 y : Nat} (hy : 0 < y) (hN : N = n * B + d0) :
    N / y = n / y * B + (n % y * B + d0) / y ∧ N % y = (n % y * B + d0) % y := by
  subst hN
  have e : n * B + d0 = (n % y * B + d0) + y * (n / y * B) := by
    have h := Nat.div_add_mod n y
    have h2 : n * B = y * (n / y) * B + n % y * B := by rw [← Nat.add_mul, h]
    rw [← Nat.mul_assoc, h2, Nat.add_assoc, Nat.add_comm]
  rw [e, Nat.add_mul_div_left _ _ hy, Nat.add_mul_mod_self_left]
  exact ⟨Nat.add_comm _ _, rfl⟩
/-- A divisor and a dividend that are moved alike. -/
theorem shifted {a y k : Nat} (hk : 0 < k) : a * k / (y * k) = a / y ∧ a * k % (y * k) = a % y * k := by
  exact ⟨Nat.mul_div_mul_right _ _ hk, Nat.mul_mod_mul_right _ _ _⟩

/-- What a shift of the divisor to its full length gives. -/
theorem bit_bounds (y : Nat) (h : 0 < y) (hy : y < 2 ^ 64) : 1 ≤ Lib.bitLen y ∧ Lib.bitLen y ≤ 64 ∧ 2 ^ (Lib.bitLen y - 1) ≤ y ∧ y < 2 ^ Lib.bitLen y := by
  obtain ⟨a, b, c⟩ := Lib.bitLenAux_bounds 64 y hy (by omega)
  exact ⟨a, Lib.bitLen_le y 64 (Nat.le_refl _) hy, b, c⟩
theorem shift_up {y L : Nat} (h1 : 1 ≤ L) (h2 : L ≤ 64) (h3 : 2 ^ (L - 1) ≤ y) (h4 : y < 2 ^ L) : 2 ^ 63 ≤ y * 2 ^ (64 - L) ∧ y * 2 ^ (64 - L) < 2 ^ 64 ∧ 2 ^ L * 2 ^ (64 - L) = 2 ^ 64 := by
  have e1 : 2 ^ (L - 1) * 2 ^ (64 - L) = 2 ^ 63 := by rw [← Nat.pow_add]; congr 1; omega
  have e2 : 2 ^ L * 2 ^ (64 - L) = 2 ^ 64 := by rw [← Nat.pow_add]; congr 1; omega
  refine ⟨?_, ?_, e2⟩
  · rw [← e1]; exact Nat.mul_le_mul_right _ h3
  · rw [← e2]; exact Nat.mul_lt_mul_of_pos_right h4 (Nat.pow_pos (by omega))
theorem shift_two {hi lo K K2 M : Nat} (hK : 0 < K) (hK2 : 0 < K2) (e : K2 * K = M) (hl : lo < M) : lo / K2 < K ∧ (hi * K + lo / K2) * M + lo * K % M = (hi * M + lo) * K := by
  constructor
  · rw [Nat.div_lt_iff_lt_mul hK2, Nat.mul_comm, e]; exact hl
  · have h1 : lo * K / M = lo / K2 := by rw [← e]; exact Nat.mul_div_mul_right _ _ hK
    have h2 := Nat.div_add_mod (lo * K) M
    rw [h1] at h2
    rw [Nat.add_mul, Nat.add_mul, Nat.mul_right_comm hi M K, Nat.add_assoc, Nat.mul_comm (lo / K2) M, h2]
theorem join_halves {X D NK : Nat} (h : X * 18446744073709551616 + D = NK) : NK = (X * 4294967296 + D / 4294967296) * 4294967296 + D % 4294967296 := by omega
theorem quot_lt {hi lo y N : Nat} (hh : hi < y) (hl : lo < 18446744073709551616) (hN : N = hi * 18446744073709551616 + lo) : N / y < 18446744073709551616 := by
  rw [Nat.div_lt_iff_lt_mul (by omega), hN]
  have := Nat.mul_le_mul_right 18446744073709551616 (Nat.succ_le_of_lt hh)
  rw [Nat.succ_mul] at this
  omega
theorem halves (Y : Nat) (h : Y < 18446744073709551616) : Y / 4294967296 < 4294967296 ∧ Y % 4294967296 < 4294967296 ∧ Y / 4294967296 * 4294967296 + Y % 4294967296 = Y := by omega
/-- The root of a number, rounded down. -/
def isq : Nat → Nat
  | 0 => 0
  | n + 1 => if (isq n + 1) * (isq n + 1) ≤ n + 1 then isq n + 1 else isq n
theorem isq_spec (n : Nat) : isq n * isq n ≤ n ∧ n < (isq n + 1) * (isq n + 1) := by
  induction n with
  | zero => exact ⟨Nat.le_refl _, by simp [isq]⟩
  | succ n ih =>
    unfold isq
    by_cases h : (isq n + 1) * (isq n + 1) ≤ n + 1
    · rw [if_pos h]
      refine ⟨h, ?_⟩
      have e : (isq n + 1 + 1) * (isq n + 1 + 1) = (isq n + 1) * (isq n + 1) + 2 * (isq n + 1) + 1 := by
        rw [Nat.add_mul, Nat.mul_add (isq n + 1) (isq n + 1) 1]; omega
      rw [e]; omega
    · rw [if_neg h]
      exact ⟨by omega, by omega⟩
theorem sq_lt {a b : Nat} (h : a * a < b * b) : a < b := by
  apply Nat.lt_of_not_le
  intro hb
  have := Nat.mul_le_mul hb hb
  omega
theorem isq_eq {n q : Nat} (h1 : q * q ≤ n) (h2 : n < (q + 1) * (q + 1)) : q = isq n := by
  obtain ⟨h3, h4⟩ := isq_spec n
  have a := sq_lt (Nat.lt_of_le_of_lt h1 h4)
  have b := sq_lt (Nat.lt_of_le_of_lt h3 h2)
  omega
theorem isq_lt {a b : Nat} (h : a < b * b) : isq a < b := sq_lt (Nat.lt_of_le_of_lt (isq_spec a).1 h)
theorem le_isq {a b : Nat} (h : b * b ≤ a) : b ≤ isq a := by
  have := sq_lt (Nat.lt_of_le_of_lt h (isq_spec a).2)
  omega
end Go.Proofs.YthbdeaglncoanaaGreatDoor.Num

/- Plain mathematics of a table: the least number with a value of at least y, the greatest one with a value of at most y; no program stands here. -/
import Derived.Test.YtpeelnjkppdkbaaGreatVal
namespace Go.Proofs.YtpeelnjkppdkbaaGreat.Val

/-- The value, rounded up, by the rest. -/
def up (X Y : Nat → Int) (m : Nat) (x : Int) : Int := val X Y m x + if 0 < rst X Y m x then 1 else 0
/-- What Least answers: where the values reach y. -/
def LeastAt (X Y : Nat → Int) (m : Nat) (y n : Int) : Prop :=
  (y ≤ Y 0 ∧ n = X 0) ∨ ∃ k, k < m ∧ Y k < y ∧ y ≤ Y (k + 1) ∧ n = X k + ((y - Y k) * (X (k + 1) - X k) + (Y (k + 1) - Y k) - 1) / (Y (k + 1) - Y k)
/-- What Most answers: up to where the values stay at most y. -/
def MostAt (X Y : Nat → Int) (m : Nat) (y n : Int) : Prop :=
  (Y m ≤ y ∧ n = X m) ∨ ∃ k, k < m ∧ Y k ≤ y ∧ y < Y (k + 1) ∧ n = X k + ((y - Y k) * (X (k + 1) - X k)) / (Y (k + 1) - Y k)
theorem le_div {a b c : Int} (hc : 0 < c) : a ≤ b / c ↔ a * c ≤ b := Int.le_ediv_iff_mul_le hc
theorem ceil_le {a b c : Int} (hc : 0 < c) : (b + c - 1) / c ≤ a ↔ b ≤ a * c := by
  have h := le_div (a := a + 1) (b := b + c - 1) hc
  rw [Int.add_mul, Int.one_mul] at h
  constructor
  · intro h1
    apply Classical.byContradiction
    intro h2
    have := h.2 (by omega)
    omega
  · intro h1
    apply Classical.byContradiction
    intro h2
    have := h.1 (by omega)
    omega
theorem least_in {X Y : Nat → Int} {m : Nat} {y n : Int} (ha : Asc X Y m) (h : LeastAt X Y m y n) : X 0 ≤ n ∧ n ≤ X m := by
  rcases h with ⟨_, rfl⟩ | ⟨k, hk, h1, h2, rfl⟩
  · exact ⟨Int.le_refl _, (ha.mono (Nat.le_refl m) (Nat.zero_le m)).1⟩
  · have h3 := (ha k hk).1
    have h4 := (ha.mono (by omega : k ≤ m) (Nat.zero_le k)).1
    have h5 := (ha.mono (Nat.le_refl m) (by omega : k + 1 ≤ m)).1
    have h6 : 0 < Y (k + 1) - Y k := by omega
    have h7 : ((y - Y k) * (X (k + 1) - X k) + (Y (k + 1) - Y k) - 1) / (Y (k + 1) - Y k) ≤ X (k + 1) - X k := by
      rw [ceil_le h6, Int.mul_comm (X (k + 1) - X k)]
      exact Int.mul_le_mul_of_nonneg_right (by omega) (by omega)
    have h8 : 0 ≤ ((y - Y k) * (X (k + 1) - X k) + (Y (k + 1) - Y k) - 1) / (Y (k + 1) - Y k) := by
      rw [le_div h6, Int.zero_mul]
      have := Int.mul_nonneg (by omega : 0 ≤ y - Y k) (by omega : 0 ≤ X (k + 1) - X k)
      omega
    omega
/-- From the first X on a number has a value of at least y exactly if it is at least Least. -/
theorem least_iff {X Y : Nat → Int} {m : Nat} {y n x : Int} (ha : Asc X Y m) (h : LeastAt X Y m y n) (hx : X 0 ≤ x) : y ≤ val X Y m x ↔ n ≤ x := by
  rcases h with ⟨h1, rfl⟩ | ⟨k, hk, h1, h2, rfl⟩
  · have := val_ge (x := x) ha
    constructor <;> intro _ <;> omega
  · have h3 := (ha k hk).1
    have h6 : 0 < Y (k + 1) - Y k := by omega
    have hD : 0 < X (k + 1) - X k := by omega
    have hC := ceil_le (a := x - X k) (b := (y - Y k) * (X (k + 1) - X k)) h6
    by_cases c1 : x < X k
    · have v1 := val_mono ha (by omega : x ≤ X k)
      rw [(val_knot ha (by omega : k ≤ m)).1] at v1
      have h8 : 0 ≤ ((y - Y k) * (X (k + 1) - X k) + (Y (k + 1) - Y k) - 1) / (Y (k + 1) - Y k) := by
        rw [le_div h6, Int.zero_mul]
        have := Int.mul_nonneg (by omega : 0 ≤ y - Y k) (by omega : 0 ≤ X (k + 1) - X k)
        omega
      constructor <;> intro _ <;> omega
    · by_cases c2 : X (k + 1) ≤ x
      · have v1 := val_mono ha c2
        rw [(val_knot ha (by omega : k + 1 ≤ m)).1] at v1
        have h7 : ((y - Y k) * (X (k + 1) - X k) + (Y (k + 1) - Y k) - 1) / (Y (k + 1) - Y k) ≤ X (k + 1) - X k := by
          rw [ceil_le h6, Int.mul_comm (X (k + 1) - X k)]
          exact Int.mul_le_mul_of_nonneg_right (by omega) (by omega)
        constructor <;> intro _ <;> omega
      · rw [(val_mid ha hk (by omega) (by omega)).1]
        unfold fl
        have hF := le_div (a := y - Y k) (b := (Y (k + 1) - Y k) * (x - X k)) hD
        rw [Int.mul_comm (x - X k)] at hC
        constructor
        · intro h9
          have := hC.2 (hF.1 (by omega))
          omega
        · intro h9
          have := hF.2 (hC.1 (by omega))
          omega
theorem most_in {X Y : Nat → Int} {m : Nat} {y n : Int} (ha : Asc X Y m) (h : MostAt X Y m y n) : X 0 ≤ n ∧ n ≤ X m := by
  rcases h with ⟨_, rfl⟩ | ⟨k, hk, h1, h2, rfl⟩
  · exact ⟨(ha.mono (Nat.le_refl m) (Nat.zero_le m)).1, Int.le_refl _⟩
  · have h3 := (ha k hk).1
    have h4 := (ha.mono (by omega : k ≤ m) (Nat.zero_le k)).1
    have h5 := (ha.mono (Nat.le_refl m) (by omega : k + 1 ≤ m)).1
    have h6 : 0 < Y (k + 1) - Y k := by omega
    have h7 : ((y - Y k) * (X (k + 1) - X k)) / (Y (k + 1) - Y k) ≤ X (k + 1) - X k := by
      apply Int.ediv_le_of_le_mul h6
      rw [Int.mul_comm (X (k + 1) - X k)]
      exact Int.mul_le_mul_of_nonneg_right (by omega) (by omega)
    have h8 : 0 ≤ ((y - Y k) * (X (k + 1) - X k)) / (Y (k + 1) - Y k) := Int.ediv_nonneg (Int.mul_nonneg (by omega) (by omega)) (by omega)
    omega
theorem up_mono_knot {X Y : Nat → Int} {m k : Nat} (ha : Asc X Y m) (hk : k ≤ m) : up X Y m (X k) = Y k := by
  unfold up; rw [(val_knot ha hk).1, (val_knot ha hk).2]; simp
theorem up_ge {X Y : Nat → Int} {m : Nat} {x : Int} : val X Y m x ≤ up X Y m x := by unfold up; split <;> omega
theorem up_step {P D t : Int} (hD : 0 < D) : P / D + (if 0 < P % D then 1 else 0) ≤ t ↔ P ≤ t * D := by
  have e := Int.mul_ediv_add_emod P D
  have m0 := Int.emod_nonneg P (by omega : D ≠ 0)
  have m1 := Int.emod_lt_of_pos P hD
  generalize P / D = q at *
  generalize P % D = r at *
  subst e
  by_cases hr : 0 < r
  · rw [if_pos hr]
    constructor
    · intro h
      have := Int.mul_le_mul_of_nonneg_left h (by omega : 0 ≤ D)
      rw [Int.mul_add, Int.mul_one, Int.mul_comm D t] at this
      omega
    · intro h
      apply Classical.byContradiction
      intro h2
      have := Int.mul_le_mul_of_nonneg_left (by omega : t ≤ q) (by omega : 0 ≤ D)
      rw [Int.mul_comm D t] at this
      omega
  · rw [if_neg hr]
    have : r = 0 := by omega
    subst this
    constructor
    · intro h
      have := Int.mul_le_mul_of_nonneg_left (by omega : q ≤ t) (by omega : 0 ≤ D)
      rw [Int.mul_comm D t] at this
      omega
    · intro h
      apply Classical.byContradiction
      intro h2
      have := Int.mul_le_mul_of_nonneg_left (by omega : t + 1 ≤ q) (by omega : 0 ≤ D)
      rw [Int.mul_add, Int.mul_one, Int.mul_comm D t] at this
      omega
/-- On a piece the value, rounded up, is at most y exactly if the product is. -/
theorem up_mid {X Y : Nat → Int} {m k : Nat} {x y : Int} (ha : Asc X Y m) (hk : k < m) (h1 : X k ≤ x) (h2 : x < X (k + 1)) : up X Y m x ≤ y ↔ (Y (k + 1) - Y k) * (x - X k) ≤ (y - Y k) * (X (k + 1) - X k) := by
  have h := up_step (P := (Y (k + 1) - Y k) * (x - X k)) (D := X (k + 1) - X k) (t := y - Y k) (by omega)
  unfold up
  rw [(val_mid ha hk h1 h2).1, (val_mid ha hk h1 h2).2, ← h]
  unfold fl rs
  constructor <;> intro _ <;> omega
theorem up_mono {X Y : Nat → Int} {m : Nat} {x z : Int} (ha : Asc X Y m) (h : x ≤ z) : up X Y m x ≤ up X Y m z := by
  rcases where_ x ha with hx | hx | ⟨k, hk, hx1, hx2⟩
  · have a := val_first ha hx
    have b := val_ge (x := z) ha
    have c := up_ge (X := X) (Y := Y) (m := m) (x := z)
    unfold up at *; rw [a.1, a.2] at *; simp; omega
  · have a := val_last (Y := Y) hx
    have b := val_last (Y := Y) (by omega : X m ≤ z)
    unfold up; rw [a.1, a.2, b.1, b.2]; exact Int.le_refl _
  · by_cases hz : z < X (k + 1)
    · rw [up_mid ha hk hx1 hx2]
      have hz2 := (up_mid (y := up X Y m z) ha hk (by omega) hz).1 (Int.le_refl _)
      have h3 := Int.mul_le_mul_of_nonneg_left (by omega : x - X k ≤ z - X k) (by have := (ha k hk).2; omega : 0 ≤ Y (k + 1) - Y k)
      omega
    · rw [up_mid ha hk hx1 hx2]
      have a := val_mono ha (by omega : X (k + 1) ≤ z)
      rw [(val_knot ha (by omega : k + 1 ≤ m)).1] at a
      have c := up_ge (X := X) (Y := Y) (m := m) (x := z)
      have h3 := Int.mul_le_mul_of_nonneg_left (by omega : x - X k ≤ X (k + 1) - X k) (by have := (ha k hk).2; omega : 0 ≤ Y (k + 1) - Y k)
      have h4 := Int.mul_le_mul_of_nonneg_right (by omega : Y (k + 1) - Y k ≤ up X Y m z - Y k) (by omega : 0 ≤ X (k + 1) - X k)
      omega
/-- Up to the last X a number has a value, rounded up, of at most y exactly if it is at most Most. -/
theorem most_iff {X Y : Nat → Int} {m : Nat} {y n x : Int} (ha : Asc X Y m) (h : MostAt X Y m y n) (hx : x ≤ X m) : up X Y m x ≤ y ↔ x ≤ n := by
  rcases h with ⟨h1, rfl⟩ | ⟨k, hk, h1, h2, rfl⟩
  · have := up_mono ha hx
    rw [up_mono_knot ha (Nat.le_refl m)] at this
    constructor <;> intro _ <;> omega
  · have h3 := (ha k hk).1
    have h6 : 0 < Y (k + 1) - Y k := by omega
    have h8 : 0 ≤ ((y - Y k) * (X (k + 1) - X k)) / (Y (k + 1) - Y k) := Int.ediv_nonneg (Int.mul_nonneg (by omega) (by omega)) (by omega)
    by_cases c1 : x < X k
    · have v1 := up_mono ha (by omega : x ≤ X k)
      rw [up_mono_knot ha (by omega : k ≤ m)] at v1
      constructor <;> intro _ <;> omega
    · by_cases c2 : X (k + 1) ≤ x
      · have v1 := up_mono ha c2
        rw [up_mono_knot ha (by omega : k + 1 ≤ m)] at v1
        have h7 : ((y - Y k) * (X (k + 1) - X k)) / (Y (k + 1) - Y k) < X (k + 1) - X k := by
          rw [Int.ediv_lt_iff_lt_mul h6, Int.mul_comm (X (k + 1) - X k)]
          exact Int.mul_lt_mul_of_pos_right (by omega) (by omega)
        constructor <;> intro _ <;> omega
      · rw [up_mid ha hk (by omega) (by omega), Int.mul_comm (Y (k + 1) - Y k), ← le_div h6]
        constructor <;> intro _ <;> omega
end Go.Proofs.YtpeelnjkppdkbaaGreat.Val

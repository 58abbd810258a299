/- Plain mathematics of a table: its value at a number, as the integer below it and a rest; no program stands here. -/
namespace Go.Proofs.YthbdeaglncoanaaGreatDoor.Val

/-- The value on the piece from knot k on: the integer below, and the rest. -/
def fl (X Y : Nat → Int) (k : Nat) (x : Int) : Int := Y k + (Y (k + 1) - Y k) * (x - X k) / (X (k + 1) - X k)
def rs (X Y : Nat → Int) (k : Nat) (x : Int) : Int := (Y (k + 1) - Y k) * (x - X k) % (X (k + 1) - X k)
/-- The value of a table whose last knot is m. -/
def val (X Y : Nat → Int) : Nat → Int → Int
  | 0, _ => Y 0
  | m + 1, x => if X (m + 1) ≤ x then Y (m + 1) else if X m ≤ x then fl X Y m x else val X Y m x
def rst (X Y : Nat → Int) : Nat → Int → Int
  | 0, _ => 0
  | m + 1, x => if X (m + 1) ≤ x then 0 else if X m ≤ x then rs X Y m x else rst X Y m x
/-- The knots ascend, the values do not descend. -/
def Asc (X Y : Nat → Int) (m : Nat) : Prop := ∀ k, k < m → X k < X (k + 1) ∧ Y k ≤ Y (k + 1)
theorem Asc.mono {X Y : Nat → Int} {m i j : Nat} (h : Asc X Y m) (hj : j ≤ m) (hij : i ≤ j) : X i ≤ X j ∧ Y i ≤ Y j := by
  induction j with
  | zero => have : i = 0 := by omega
            subst this; exact ⟨Int.le_refl _, Int.le_refl _⟩
  | succ j ih =>
    rcases Nat.lt_or_ge i (j + 1) with h1 | h1
    · have h2 := ih (by omega) (by omega)
      have h3 := h j (by omega)
      omega
    · have : i = j + 1 := by omega
      subst this; exact ⟨Int.le_refl _, Int.le_refl _⟩
theorem Asc.lt {X Y : Nat → Int} {m i j : Nat} (h : Asc X Y m) (hj : j ≤ m) (hij : i < j) : X i < X j := by
  have h1 := h i (by omega)
  have h2 := (h.mono hj (by omega : i + 1 ≤ j)).1
  omega
theorem fl_left {X Y : Nat → Int} {k : Nat} : fl X Y k (X k) = Y k := by unfold fl; simp
theorem rs_left {X Y : Nat → Int} {k : Nat} : rs X Y k (X k) = 0 := by unfold rs; simp
theorem fl_right {X Y : Nat → Int} {k : Nat} (h : X k < X (k + 1)) : fl X Y k (X (k + 1)) = Y (k + 1) := by
  unfold fl; rw [Int.mul_ediv_cancel _ (by omega)]; omega
theorem fl_mono {X Y : Nat → Int} {k : Nat} {x y : Int} (hX : X k < X (k + 1)) (hY : Y k ≤ Y (k + 1)) (h : x ≤ y) : fl X Y k x ≤ fl X Y k y := by
  unfold fl
  have h1 : (Y (k + 1) - Y k) * (x - X k) ≤ (Y (k + 1) - Y k) * (y - X k) := Int.mul_le_mul_of_nonneg_left (by omega) (by omega)
  have h2 := Int.ediv_le_ediv (c := X (k + 1) - X k) (by omega) h1
  omega
/-- What a search finds. -/
theorem val_first {X Y : Nat → Int} {m : Nat} {x : Int} (ha : Asc X Y m) (hx : x ≤ X 0) : val X Y m x = Y 0 ∧ rst X Y m x = 0 := by
  induction m with
  | zero => exact ⟨rfl, rfl⟩
  | succ m ih =>
    have h1 := ha m (by omega)
    have h2 := (ha.mono (by omega : m ≤ m + 1) (Nat.zero_le m)).1
    have ih' := ih (fun k hk => ha k (by omega))
    have e1 : ¬ X (m + 1) ≤ x := by omega
    simp only [val, rst, if_neg e1]
    by_cases h3 : X m ≤ x
    · have hm : m = 0 := by
        rcases Nat.eq_zero_or_pos m with h | h
        · exact h
        · have := ha.lt (by omega : m ≤ m + 1) h; omega
      subst hm
      have : x = X 0 := by omega
      subst this
      simp only [if_pos h3]
      exact ⟨fl_left, rs_left⟩
    · simp only [if_neg h3]; exact ih'
theorem val_last {X Y : Nat → Int} {m : Nat} {x : Int} (hx : X m ≤ x) : val X Y m x = Y m ∧ rst X Y m x = 0 := by
  cases m with
  | zero => exact ⟨rfl, rfl⟩
  | succ m => simp only [val, rst, if_pos hx]; exact ⟨trivial, trivial⟩
theorem val_mid {X Y : Nat → Int} {m k : Nat} {x : Int} (ha : Asc X Y m) (hk : k < m) (h1 : X k ≤ x) (h2 : x < X (k + 1)) : val X Y m x = fl X Y k x ∧ rst X Y m x = rs X Y k x := by
  induction m with
  | zero => omega
  | succ m ih =>
    have h3 := (ha.mono (Nat.le_refl _) (by omega : k + 1 ≤ m + 1)).1
    have e1 : ¬ X (m + 1) ≤ x := by omega
    simp only [val, rst, if_neg e1]
    by_cases h4 : k = m
    · subst h4; simp only [if_pos h1]; exact ⟨trivial, trivial⟩
    · have h5 := (ha.mono (by omega : m ≤ m + 1) (by omega : k + 1 ≤ m)).1
      have e2 : ¬ X m ≤ x := by omega
      simp only [if_neg e2]
      exact ih (fun k hk => ha k (by omega)) (by omega)
theorem val_knot {X Y : Nat → Int} {m k : Nat} (ha : Asc X Y m) (hk : k ≤ m) : val X Y m (X k) = Y k ∧ rst X Y m (X k) = 0 := by
  rcases Nat.lt_or_ge k m with h | h
  · have := ha k h
    have h2 := val_mid (x := X k) ha h (Int.le_refl _) this.1
    rw [h2.1, h2.2, fl_left, rs_left]; exact ⟨rfl, rfl⟩
  · have : k = m := by omega
    subst this; exact val_last (Int.le_refl _)
/-- Every number lies before the first knot, behind the last one, or on a piece. -/
theorem where_ {X Y : Nat → Int} {m : Nat} (x : Int) (ha : Asc X Y m) : x ≤ X 0 ∨ X m ≤ x ∨ ∃ k, k < m ∧ X k ≤ x ∧ x < X (k + 1) := by
  induction m with
  | zero => omega
  | succ m ih =>
    rcases ih (fun k hk => ha k (by omega)) with h | h | ⟨k, hk, h1, h2⟩
    · exact .inl h
    · by_cases h3 : X (m + 1) ≤ x
      · exact .inr (.inl h3)
      · exact .inr (.inr ⟨m, by omega, h, by omega⟩)
    · exact .inr (.inr ⟨k, by omega, h1, h2⟩)
theorem fl_in {X Y : Nat → Int} {m k : Nat} {x : Int} (ha : Asc X Y m) (hk : k < m) (h1 : X k ≤ x) (h2 : x ≤ X (k + 1)) : Y k ≤ fl X Y k x ∧ fl X Y k x ≤ Y (k + 1) := by
  have h3 := ha k hk
  have e1 := fl_mono (Y := Y) h3.1 h3.2 h1
  have e2 := fl_mono (Y := Y) h3.1 h3.2 h2
  rw [fl_left] at e1
  rw [fl_right h3.1] at e2
  exact ⟨e1, e2⟩
theorem val_ge {X Y : Nat → Int} {m : Nat} {x : Int} (ha : Asc X Y m) : Y 0 ≤ val X Y m x := by
  rcases where_ x ha with hx | hx | ⟨k, hk, hx1, hx2⟩
  · rw [(val_first ha hx).1]; exact Int.le_refl _
  · rw [(val_last hx).1]; exact (ha.mono (Nat.le_refl m) (Nat.zero_le m)).2
  · rw [(val_mid ha hk hx1 hx2).1]
    have := (fl_in ha hk hx1 (by omega)).1
    have := (ha.mono (by omega : k ≤ m) (Nat.zero_le k)).2
    omega
theorem val_le {X Y : Nat → Int} {m : Nat} {x : Int} (ha : Asc X Y m) : val X Y m x ≤ Y m := by
  rcases where_ x ha with hx | hx | ⟨k, hk, hx1, hx2⟩
  · rw [(val_first ha hx).1]; exact (ha.mono (Nat.le_refl m) (Nat.zero_le m)).2
  · rw [(val_last hx).1]; exact Int.le_refl _
  · rw [(val_mid ha hk hx1 hx2).1]
    have := (fl_in ha hk hx1 (by omega)).2
    have := (ha.mono (Nat.le_refl m) (by omega : k + 1 ≤ m)).2
    omega
end Go.Proofs.YthbdeaglncoanaaGreatDoor.Val

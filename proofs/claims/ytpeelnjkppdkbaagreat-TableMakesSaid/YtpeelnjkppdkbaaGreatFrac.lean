/- The value of a table as an integer, a rest and a denominator: by the package and by the reference. -/
import Derived.Test.YtpeelnjkppdkbaaGreatFloor
import Derived.Test.YtpeelnjkppdkbaaGreatRefD
namespace Go.Proofs.YtpeelnjkppdkbaaGreat
open Go.RowKit
set_option linter.unusedVariables false
set_option linter.unusedSimpArgs false

/-- The denominator of the rest, where there is one. -/
def Val.dn (X : Nat → Int) : Nat → Int → Nat
  | 0, _ => 1
  | m + 1, x => if X (m + 1) ≤ x then 1 else if X m ≤ x then (X (m + 1) - X m).toNat else Val.dn X m x
theorem Val.dn_mid {X Y : Nat → Int} {m k : Nat} {x : Int} (ha : Val.Asc X Y m) (hk : k < m) (h1 : X k ≤ x) (h2 : x < X (k + 1)) : Val.dn X m x = (X (k + 1) - X k).toNat := by
  induction m with
  | zero => omega
  | succ m ih =>
    have h3 := (ha.mono (Nat.le_refl _) (by omega : k + 1 ≤ m + 1)).1
    have e1 : ¬ X (m + 1) ≤ x := by omega
    simp only [Val.dn, if_neg e1]
    by_cases h4 : k = m
    · subst h4; simp only [if_pos h1]
    · have h5 := (ha.mono (by omega : m ≤ m + 1) (by omega : k + 1 ≤ m)).1
      have e2 : ¬ X m ≤ x := by omega
      simp only [if_neg e2]
      exact ih (fun k hk => ha k (by omega)) (by omega)
def Val.DenOK (X Y : Nat → Int) (m : Nat) (x : Int) (d : Nat) : Prop := 0 < d ∧ d ≤ 2251799813685248 ∧ 0 ≤ Val.rst X Y m x ∧ Val.rst X Y m x < d ∧ (Val.rst X Y m x ≠ 0 → d = Val.dn X m x)
theorem Val.den_one {X Y : Nat → Int} {m : Nat} {x : Int} (h : Val.rst X Y m x = 0) : Val.DenOK X Y m x 1 := by
  unfold Val.DenOK; rw [h]; exact ⟨by omega, by omega, by omega, by omega, fun h => absurd rfl h⟩
theorem Val.den_mid {X Y : Nat → Int} {m k D : Nat} {x : Int} (ha : Val.Asc X Y m) (hk : k < m) (h1 : X k ≤ x) (h2 : x < X (k + 1)) (hD : X (k + 1) - X k = (D : Int)) (h3 : 0 < D) (h4 : D ≤ 2251799813685248) : Val.DenOK X Y m x D := by
  have e : Val.rst X Y m x = (Y (k + 1) - Y k) * (x - X k) % (D : Int) := by rw [(Val.val_mid ha hk h1 h2).2]; unfold Val.rs; rw [hD]
  unfold Val.DenOK
  rw [e, Val.dn_mid ha hk h1 h2, hD]
  exact ⟨h3, h4, Int.emod_nonneg _ (by omega), Int.emod_lt_of_pos _ (by omega), fun _ => rfl⟩

/-- What the search's piece gives is the table's value. -/
theorem tpiece_den (b off m c : Nat) (X Y : Nat → Int) (x : Int) (hv : TabOK (m + 1) X Y) :
    ∃ d : Nat, Val.DenOK X Y m x d ∧ ∀ w, TabAt w b off (m + 1) X Y → Calls Tryz.prog 23 #[.slice (some ⟨b, off, none⟩) (m + 1 : Nat) c, .int .i64 x] w fun e w' => e = .returned (.tuple #[.int .i64 (Val.val X Y m x), .int .i64 (Val.rst X Y m x), .int .i64 (d : Int)]) ∧ Below w.heap.size w w' := by
  have ha := asc_of hv
  have h1 := hv.1
  have h2 := hv.2.1
  have found : ∀ k, k ≤ m → X k = x → ∀ w, TabAt w b off (m + 1) X Y → Calls Tryz.prog 23 #[.slice (some ⟨b, off, none⟩) (m + 1 : Nat) c, .int .i64 x] w fun e w' => e = .returned (.tuple #[.int .i64 (Val.val X Y m x), .int .i64 (Val.rst X Y m x), .int .i64 ((1 : Nat) : Int)]) ∧ Below w.heap.size w w' := fun k hk hx w ht => by
    subst hx
    rw [(Val.val_knot ha hk).1, (Val.val_knot ha hk).2]
    exact piece_found b off (m + 1) c k X Y (X k) w h1 h2 ht ⟨by omega, fun j hj => ha.lt hk hj, fun j hj hj' => (ha.mono (by omega) hj).1⟩ (by omega) (.inr rfl)
  rcases Val.where_ x ha with hx | hx | ⟨k, hk, hx1, hx2⟩
  · refine ⟨1, Val.den_one (Val.val_first ha hx).2, fun w ht => ?_⟩
    rw [(Val.val_first ha hx).1, (Val.val_first ha hx).2]
    exact piece_found b off (m + 1) c 0 X Y x w h1 h2 ht ⟨by omega, fun j hj => absurd hj (by omega), fun j hj hj' => by have := (ha.mono (by omega : j ≤ m) (Nat.zero_le j)).1; omega⟩ (by omega) (.inl rfl)
  · by_cases he : X m = x
    · exact ⟨1, Val.den_one (he ▸ (Val.val_knot ha (Nat.le_refl m)).2), found m (Nat.le_refl _) he⟩
    · refine ⟨1, Val.den_one (Val.val_last hx).2, fun w ht => ?_⟩
      rw [(Val.val_last hx).1, (Val.val_last hx).2]
      exact piece_end b off (m + 1) c X Y x w h1 h2 ht ⟨Nat.le_refl _, fun j hj => by have := (ha.mono (Nat.le_refl m) (by omega : j ≤ m)).1; omega, fun j hj hj' => absurd hj' (by omega)⟩
  · by_cases he : X k = x
    · exact ⟨1, Val.den_one (he ▸ (Val.val_knot ha (by omega : k ≤ m)).2), found k (by omega) he⟩
    · have bk := in_of hv (by omega : k < m + 1)
      have bk1 := in_of hv (by omega : k + 1 < m + 1)
      have hk1 := ha k hk
      obtain ⟨U, hU⟩ : ∃ U : Nat, Y (k + 1) - Y k = (U : Int) := ⟨(Y (k + 1) - Y k).toNat, by omega⟩
      obtain ⟨A, hA⟩ : ∃ U : Nat, x - X k = (U : Int) := ⟨(x - X k).toNat, by omega⟩
      obtain ⟨D, hD⟩ : ∃ U : Nat, X (k + 1) - X k = (U : Int) := ⟨(X (k + 1) - X k).toNat, by omega⟩
      refine ⟨D, Val.den_mid ha hk hx1 hx2 hD (by omega) (by omega), fun w ht => ?_⟩
      have e1 : Val.val X Y m x = Y k + ((U * A / D : Nat) : Int) := by
        rw [(Val.val_mid ha hk hx1 hx2).1]; unfold Val.fl; rw [hU, hA, hD]; rfl
      have e2 : Val.rst X Y m x = ((U * A % D : Nat) : Int) := by
        rw [(Val.val_mid ha hk hx1 hx2).2]; unfold Val.rs; rw [hU, hA, hD]; rfl
      have hq : U * A / D ≤ U := by
        apply Nat.div_le_of_le_mul
        rw [Nat.mul_comm D U]
        exact Nat.mul_le_mul_left U (by omega)
      rw [e1, e2]
      exact piece_mid b off (m + 1) c k U A D (U * A / D) (U * A % D) X Y x w h1 h2 ht
        ⟨by omega, fun j hj => by have := (ha.mono (by omega : k ≤ m) (by omega : j ≤ k)).1; omega, fun j hj hj' => by have := (ha.mono (by omega : j ≤ m) (by omega : k + 1 ≤ j)).1; omega⟩ (by omega) (by omega)
        (by rw [hU]; exact wrap_id (by omega) (by omega)) (by rw [hA]; exact wrap_id (by omega) (by omega)) (by rw [hD]; exact wrap_id (by omega) (by omega)) (by omega) (by omega) (by omega) rfl rfl
        (by have hb : (0 : Int) ≤ ((U * A / D : Nat) : Int) ∧ ((U * A / D : Nat) : Int) ≤ (U : Int) := ⟨Int.natCast_nonneg _, Int.ofNat_le.2 hq⟩
            generalize ((U * A / D : Nat) : Int) = q at hb ⊢
            exact wrap_id (by omega) (by omega))

/-- The reference's value is the table's value. -/
theorem rvalue_den (b off m c : Nat) (X Y : Nat → Int) (x : Int) (hv : TabOK (m + 1) X Y) (hx : -9223372036854775808 ≤ x ∧ x ≤ 9223372036854775807) :
    ∃ d : Nat, Val.DenOK X Y m x d ∧ ∀ w, TabAt w b off (m + 1) X Y → Calls Tryz.prog 50 #[.slice (some ⟨b, off, none⟩) (m + 1 : Nat) c, .int .i64 x] w fun e w' => e = .returned (.tuple #[.int .i64 (Val.val X Y m x), .int .i64 (Val.rst X Y m x), .int .i64 (d : Int)]) ∧ Below w.heap.size w w' := by
  have ha := asc_of hv
  have h1 := hv.1
  have h2 := hv.2.1
  by_cases hx0 : x < X 0
  · refine ⟨1, Val.den_one (Val.val_first ha (by omega)).2, fun w ht => ?_⟩
    rw [(Val.val_first ha (by omega)).1, (Val.val_first ha (by omega)).2]
    exact rvalue_first b off (m + 1) c X Y x w h1 h2 ht (.inl ⟨rfl, fun j hj => by have := (ha.mono (by omega : j ≤ m) (Nat.zero_le j)).1; omega⟩)
  · by_cases hx1 : X m ≤ x
    · refine ⟨1, Val.den_one (Val.val_last hx1).2, fun w ht => ?_⟩
      rw [(Val.val_last hx1).1, (Val.val_last hx1).2]
      exact rvalue_last b off (m + 1) m c X Y x w rfl h2 ht (.inr ⟨m, by omega, rfl, hx1, fun j hj hj' => by omega⟩)
    · have hex : ∃ k, k < m ∧ X k ≤ x ∧ x < X (k + 1) := by
        rcases Val.where_ x ha with h | h | h
        · have : x = X 0 := by omega
          have hm : 0 < m := by
            rcases Nat.eq_zero_or_pos m with rfl | h
            · omega
            · exact h
          exact ⟨0, hm, by omega, by have := (ha 0 hm).1; omega⟩
        · exact absurd h hx1
        · exact h
      obtain ⟨k, hk, hx1, hx2⟩ := hex
      have bk := in_of hv (by omega : k < m + 1)
      have bk1 := in_of hv (by omega : k + 1 < m + 1)
      have hk1 := ha k hk
      obtain ⟨U, hU⟩ : ∃ U : Nat, Y (k + 1) - Y k = (U : Int) := ⟨(Y (k + 1) - Y k).toNat, by omega⟩
      obtain ⟨A, hA⟩ : ∃ U : Nat, x - X k = (U : Int) := ⟨(x - X k).toNat, by omega⟩
      obtain ⟨D, hD⟩ : ∃ U : Nat, X (k + 1) - X k = (U : Int) := ⟨(X (k + 1) - X k).toNat, by omega⟩
      refine ⟨D, Val.den_mid ha hk hx1 hx2 hD (by omega) (by omega), fun w ht => ?_⟩
      have e1 : Val.val X Y m x = Y k + ((U * A / D : Nat) : Int) := by
        rw [(Val.val_mid ha hk hx1 hx2).1]; unfold Val.fl; rw [hU, hA, hD]; rfl
      have e2 : Val.rst X Y m x = ((U * A % D : Nat) : Int) := by
        rw [(Val.val_mid ha hk hx1 hx2).2]; unfold Val.rs; rw [hU, hA, hD]; rfl
      have hq : U * A / D ≤ U := by
        apply Nat.div_le_of_le_mul
        rw [Nat.mul_comm D U]
        exact Nat.mul_le_mul_left U (by omega)
      rw [e1, e2]
      exact rvalue_mid b off (m + 1) k c U A D (U * A / D) (U * A % D) X Y x _ w h2 ht (by omega)
        (.inr ⟨k, by omega, rfl, hx1, fun j hj hj' => by have := (ha.mono (by omega : j ≤ m) (by omega : k + 1 ≤ j)).1; omega⟩)
        (by rw [hU]; exact wrap_id (by omega) (by omega)) (by rw [hA]; exact wrap_id (by omega) (by omega)) (by rw [hD]; exact wrap_id (by omega) (by omega)) (by omega) (by omega) (by omega) (by omega) rfl (by omega) rfl
        (by have hb : (0 : Int) ≤ ((U * A / D : Nat) : Int) ∧ ((U * A / D : Nat) : Int) ≤ (U : Int) := ⟨Int.natCast_nonneg _, Int.ofNat_le.2 hq⟩
            generalize ((U * A / D : Nat) : Int) = q at hb ⊢
            exact wrap_id (by omega) (by omega))

end Go.Proofs.YtpeelnjkppdkbaaGreat

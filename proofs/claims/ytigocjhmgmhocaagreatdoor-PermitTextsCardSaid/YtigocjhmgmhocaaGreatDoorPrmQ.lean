/- Plain facts of permits: events that count, and their sums. -/
import Derived.Test.YtigocjhmgmhocaaGreatDoorPrmP
namespace Go.Proofs.YtigocjhmgmhocaaGreatDoor
open Go.RowKit
set_option linter.unusedVariables false
set_option linter.unusedSimpArgs false

/-- How many of the first n have a property. -/
def cntW (P : Nat → Bool) : Nat → Nat
  | 0 => 0
  | n + 1 => cntW P n + (if P n = true then 1 else 0)
/-- The sum of what those have. -/
def smW (P : Nat → Bool) (T : Nat → Int) : Nat → Int
  | 0 => 0
  | n + 1 => smW P T n + (if P n = true then T n else 0)
theorem cntW_le (P : Nat → Bool) : ∀ n, cntW P n ≤ n
  | 0 => Nat.le_refl _
  | n + 1 => by have := cntW_le P n; unfold cntW; split <;> omega
theorem smW_nn {P : Nat → Bool} {T : Nat → Int} : ∀ n, (∀ i, i < n → 0 ≤ T i) → 0 ≤ smW P T n
  | 0, _ => Int.le_refl _
  | n + 1, h => by have := smW_nn (P := P) n (fun i hi => h i (by omega)); have := h n (by omega); unfold smW; split <;> omega
theorem cntW_congr {P Q : Nat → Bool} : ∀ {n}, (∀ i, i < n → P i = Q i) → cntW P n = cntW Q n
  | 0, _ => rfl
  | n + 1, h => by unfold cntW; rw [cntW_congr fun i hi => h i (by omega), h n (by omega)]
theorem smW_congr {P Q : Nat → Bool} {T : Nat → Int} : ∀ {n}, (∀ i, i < n → P i = Q i) → smW P T n = smW Q T n
  | 0, _ => rfl
  | n + 1, h => by unfold smW; rw [smW_congr fun i hi => h i (by omega), h n (by omega)]
theorem cntW_mono {P Q : Nat → Bool} : ∀ {n}, (∀ i, i < n → P i = true → Q i = true) → cntW P n ≤ cntW Q n
  | 0, _ => Nat.le_refl _
  | n + 1, h => by
    have h1 := cntW_mono (P := P) (Q := Q) (n := n) fun i hi => h i (by omega)
    have h2 := h n (by omega)
    unfold cntW
    by_cases hp : P n = true
    · rw [if_pos hp, if_pos (h2 hp)]; omega
    · rw [if_neg hp]; omega
theorem smW_mono {P Q : Nat → Bool} {T : Nat → Int} : ∀ {n}, (∀ i, i < n → 0 ≤ T i) → (∀ i, i < n → P i = true → Q i = true) → smW P T n ≤ smW Q T n
  | 0, _, _ => Int.le_refl _
  | n + 1, ht, h => by
    have h1 := smW_mono (P := P) (Q := Q) (T := T) (n := n) (fun i hi => ht i (by omega)) fun i hi => h i (by omega)
    have h2 := h n (by omega)
    have h3 := ht n (by omega)
    unfold smW
    by_cases hp : P n = true
    · rw [if_pos hp, if_pos (h2 hp)]; omega
    · rw [if_neg hp]; split <;> omega
theorem cntW_none {P : Nat → Bool} : ∀ {n}, (∀ i, i < n → P i = false) → cntW P n = 0
  | 0, _ => rfl
  | n + 1, h => by unfold cntW; rw [cntW_none fun i hi => h i (by omega), if_neg (by rw [h n (by omega)]; simp)]
theorem smW_none {P : Nat → Bool} {T : Nat → Int} : ∀ {n}, (∀ i, i < n → P i = false) → smW P T n = 0
  | 0, _ => rfl
  | n + 1, h => by unfold smW; rw [smW_none fun i hi => h i (by omega), if_neg (by rw [h n (by omega)]; simp)]; rfl
/-- Behind a place where none has the property, nothing is added. -/
theorem cntW_stop {P : Nat → Bool} {m : Nat} : ∀ {n}, m ≤ n → (∀ i, m ≤ i → i < n → P i = false) → cntW P n = cntW P m
  | 0, h, _ => by obtain rfl : m = 0 := by omega
                  rfl
  | n + 1, h, hp => by
    rcases Nat.lt_or_ge n m with k | k
    · obtain rfl : m = n + 1 := by omega
      rfl
    · unfold cntW
      rw [if_neg (by rw [hp n k (by omega)]; simp), cntW_stop k fun i h1 h2 => hp i h1 (by omega)]
      cases m <;> rfl
theorem smW_stop {P : Nat → Bool} {T : Nat → Int} {m : Nat} : ∀ {n}, m ≤ n → (∀ i, m ≤ i → i < n → P i = false) → smW P T n = smW P T m
  | 0, h, _ => by obtain rfl : m = 0 := by omega
                  rfl
  | n + 1, h, hp => by
    rcases Nat.lt_or_ge n m with k | k
    · obtain rfl : m = n + 1 := by omega
      rfl
    · have e : smW P T (n + 1) = smW P T n + 0 := by
        show smW P T n + _ = _
        rw [if_neg (by rw [hp n k (by omega)]; simp)]
      rw [e, Int.add_zero, smW_stop k fun i h1 h2 => hp i h1 (by omega)]
/-- What counts at an instant. -/
noncomputable def cntAt (E : Evs) (from_ sec t : Int) (i : Nat) : Bool := decide (yrs E from_ sec i = yearOf t ∧ from_ + sec * E.F i < t)
/-- What is left. -/
noncomputable def leftN (E : Evs) (n : Nat) (from_ sec t ev : Int) : Int := max 0 (ev - (cntW (cntAt E from_ sec t) n : Int))
noncomputable def leftV (E : Evs) (n : Nat) (from_ sec t tot : Int) : Int := max 0 (tot - cutS (smW (cntAt E from_ sec t) E.Tot n))
noncomputable def leftE (ok : Prop) (E : Evs) (n : Nat) (from_ sec t : Int) : Int := if yErr ok E n from_ sec = 0 then errOf t else yErr ok E n from_ sec
end Go.Proofs.YtigocjhmgmhocaaGreatDoor

/- Decimal numerals of at most 18 digits, as both sides read them: plain mathematics. -/
import Derived.Lib.ItoaNum
import Derived.Lib.ItoaMem
import Derived.Lib.AtoiAll
import Derived.Lib.AtoiAllCases
namespace Go.Proofs.YthbdeaglncoanaaGreatDoor
open Go
set_option linter.unusedVariables false
set_option linter.unusedSimpArgs false

theorem digit_nat {k : Nat} (h : k < 10) : (UInt8.ofNat (48 + k)).toNat = 48 + k := by
  have : k = 0 ∨ k = 1 ∨ k = 2 ∨ k = 3 ∨ k = 4 ∨ k = 5 ∨ k = 6 ∨ k = 7 ∨ k = 8 ∨ k = 9 := by omega
  rcases this with rfl | rfl | rfl | rfl | rfl | rfl | rfl | rfl | rfl | rfl <;> rfl
theorem nDigits_le : ∀ (k u : Nat), 1 ≤ k → u < 10 ^ k → Lib.nDigits u ≤ k
  | 0, _, h, _ => absurd h (by omega)
  | 1, u, _, h => by rw [Lib.nDigits_small (by simpa using h)]; exact Nat.le_refl _
  | k + 2, u, _, h => by
    by_cases hu : u < 10
    · rw [Lib.nDigits_small hu]; omega
    · rw [Lib.nDigits_big hu]
      have := nDigits_le (k + 1) (u / 10) (by omega) (by rw [Nat.pow_succ] at h; omega)
      omega
theorem pow18 : (10 : Nat) ^ 18 = 1000000000000000000 := by decide
theorem dec_head {u : Nat} : ∃ c r, Lib.decDigits u = c :: r ∧ 48 ≤ c.toNat ∧ c.toNat ≤ 57 := by
  induction u using Nat.strongRecOn with
  | _ u ih =>
    by_cases hu : u < 10
    · exact ⟨_, [], Lib.decDigits_one hu, by rw [digit_nat hu]; omega, by rw [digit_nat hu]; omega⟩
    · obtain ⟨c, r, e, h1, h2⟩ := ih (u / 10) (by omega)
      exact ⟨c, r ++ [UInt8.ofNat (48 + u % 10)], by rw [Lib.decDigits, dif_neg hu, e]; rfl, h1, h2⟩
theorem itoa_neg' {v : Int} (h : v < 0) : Lib.itoa v = 45 :: Lib.decDigits v.natAbs := by unfold Lib.itoa; rw [if_pos h]
theorem itoa_pos' {v : Int} (h : ¬ v < 0) : Lib.itoa v = Lib.decDigits v.toNat := by unfold Lib.itoa; rw [if_neg h]
theorem parse_snoc (l : List UInt8) (c : UInt8) : ∀ a m, Lib.parseUint10 a l = .ok m → 48 ≤ c.toNat → c.toNat ≤ 57 → m < 1844674407370955161 → Lib.parseUint10 a (l ++ [c]) = .ok (m * 10 + (c.toNat - 48)) := by
  induction l with
  | nil =>
    intro a m h h1 h2 h3
    simp only [Lib.parseUint10, Lib.NumEnd.ok.injEq] at h
    subst h
    simp only [List.nil_append, Lib.parseUint10, if_pos (And.intro h1 h2)]
    rw [if_neg (by omega), if_neg (by omega)]
  | cons b l ih =>
    intro a m h h1 h2 h3
    simp only [List.cons_append, Lib.parseUint10] at h ⊢
    split at h
    · rename_i hb
      rw [if_pos hb]
      split at h
      · cases h
      · rename_i hb2
        rw [if_neg hb2]
        split at h
        · cases h
        · rename_i hb3
          rw [if_neg hb3]
          exact ih _ m h h1 h2 h3
    · cases h
theorem parse_dec : ∀ u : Nat, u < 1000000000000000000 → Lib.parseUint10 0 (Lib.decDigits u) = .ok u := by
  intro u
  induction u using Nat.strongRecOn with
  | _ u ih =>
    intro h
    by_cases hu : u < 10
    · rw [Lib.decDigits_one hu]
      simp only [Lib.parseUint10, digit_nat hu]
      rw [if_pos (by omega), if_neg (by omega), if_neg (by omega)]
      congr 1
      omega
    · rw [Lib.decDigits, dif_neg hu, parse_snoc _ _ 0 (u / 10) (ih (u / 10) (by omega) (by omega)) (by rw [digit_nat (by omega)]; omega) (by rw [digit_nat (by omega)]; omega) (by omega), digit_nat (by omega)]
      congr 1
      omega
theorem mag_dec {u : Nat} (h : u < 1000000000000000000) : Lib.parseMag (Lib.decDigits u) = .ok u := by
  unfold Lib.parseMag
  obtain ⟨c, r, e, _, _⟩ := dec_head (u := u)
  rw [if_neg (by rw [e]; simp), parse_dec u h]
theorem atoi_itoa {v : Int} (h1 : -1000000000000000000 < v) (h2 : v < 1000000000000000000) : Lib.atoiAll (Lib.itoa v) = .ok v := by
  by_cases hv : v < 0
  · rw [itoa_neg' hv, Lib.atoiAll_minus, mag_dec (by omega)]
    unfold Lib.signed
    simp only
    rw [if_neg (by omega)]
    congr 1
    omega
  · rw [itoa_pos' hv]
    obtain ⟨c, r, e, hc1, hc2⟩ := dec_head (u := v.toNat)
    have hm := mag_dec (u := v.toNat) (by omega)
    rw [e] at hm ⊢
    rw [Lib.atoiAll_plain c r (by omega) (by omega), hm]
    unfold Lib.signless
    simp only
    rw [if_neg (by omega)]
    congr 1
    omega
end Go.Proofs.YthbdeaglncoanaaGreatDoor

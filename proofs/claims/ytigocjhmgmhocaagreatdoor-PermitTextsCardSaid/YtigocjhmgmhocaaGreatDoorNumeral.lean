/- Decimal numerals of at most 18 digits, as both sides read them: plain mathematics. -/
import Derived.Lib.ItoaNum
import Derived.Lib.ItoaMem
import Derived.Lib.AtoiAll
import Derived.Lib.AtoiAllCases
namespace Go.Proofs.YtigocjhmgmhocaaGreatDoor
open Go
set_option linter.unusedVariables false
set_option linter.unusedSimpArgs false

/-- What the reference reads of digits. -/
def dig : List UInt8 → Nat → Nat → Option (Nat × Nat)
  | [], n, d => some (n, d)
  | c :: r, n, d => if c.toNat < 48 ∨ 57 < c.toNat ∨ d = 18 then none else dig r (10 * n + (c.toNat - 48)) (d + 1)
theorem dig_snoc (l : List UInt8) (c : UInt8) : ∀ n d, dig (l ++ [c]) n d = (dig l n d).bind fun p => if c.toNat < 48 ∨ 57 < c.toNat ∨ p.2 = 18 then none else some (10 * p.1 + (c.toNat - 48), p.2 + 1) := by
  induction l with
  | nil => intro n d; simp only [List.nil_append, dig, Option.bind_some]
  | cons a l ih =>
    intro n d
    simp only [List.cons_append, dig]
    by_cases h : a.toNat < 48 ∨ 57 < a.toNat ∨ d = 18
    · rw [if_pos h, if_pos h]; rfl
    · rw [if_neg h, if_neg h, ih]
theorem digit_nat {k : Nat} (h : k < 10) : (UInt8.ofNat (48 + k)).toNat = 48 + k := by
  have : k = 0 ∨ k = 1 ∨ k = 2 ∨ k = 3 ∨ k = 4 ∨ k = 5 ∨ k = 6 ∨ k = 7 ∨ k = 8 ∨ k = 9 := by omega
  rcases this with rfl | rfl | rfl | rfl | rfl | rfl | rfl | rfl | rfl | rfl <;> rfl
theorem nDigits_le : ∀ (k u : Nat), 1 ≤ k → u < 10 ^ k → Lib.nDigits u ≤ k
  | 0, _, h, _ => absurd h (by omega)
  | 1, u, _, h => by rw [Lib.nDigits_small (by simpa using h)]; exact Nat.le_refl _
  | k + 2, u, _, h => by
    by_cases hu : u < 10
    · rw [Lib.nDigits_small hu]; omega
    · rw [Lib.nDigits_big hu]
      have := nDigits_le (k + 1) (u / 10) (by omega) (by rw [Nat.pow_succ] at h; omega)
      omega
theorem dig_dec : ∀ u : Nat, Lib.nDigits u ≤ 18 → dig (Lib.decDigits u) 0 0 = some (u, Lib.nDigits u) := by
  intro u
  induction u using Nat.strongRecOn with
  | _ u ih =>
    intro h
    by_cases hu : u < 10
    · rw [Lib.decDigits_one hu, Lib.nDigits_small hu]
      simp only [dig, digit_nat hu]
      rw [if_neg (by omega)]
      congr 2
      omega
    · rw [Lib.nDigits_big hu] at h ⊢
      rw [Lib.decDigits, dif_neg hu, dig_snoc, ih (u / 10) (by omega) (by omega), digit_nat (by omega : u % 10 < 10)]
      show (if _ then none else some _) = _
      rw [if_neg (by show ¬ (_ ∨ _ ∨ Lib.nDigits (u / 10) = 18); omega)]
      congr 2
      show 10 * (u / 10) + (48 + u % 10 - 48) = u
      omega
theorem dig_bound : ∀ (l : List UInt8) (n d m e : Nat), d ≤ 18 → n < 10 ^ d → dig l n d = some (m, e) → e ≤ 18 ∧ m < 10 ^ e := by
  intro l
  induction l with
  | nil => intro n d m e hd hn h; simp only [dig, Option.some.injEq, Prod.mk.injEq] at h; rw [← h.1, ← h.2]; exact ⟨hd, hn⟩
  | cons c l ih =>
    intro n d m e hd hn h
    simp only [dig] at h
    split at h
    · cases h
    · exact ih _ _ m e (by omega) (by rw [Nat.pow_succ]; omega) h

/-- The numeral of a number of at most 18 digits. -/
def Canon (t : List UInt8) (v : Int) : Prop := t = Lib.itoa v ∧ -1000000000000000000 < v ∧ v < 1000000000000000000
theorem pow18 : (10 : Nat) ^ 18 = 1000000000000000000 := by decide
theorem dec_head {u : Nat} : ∃ c r, Lib.decDigits u = c :: r ∧ 48 ≤ c.toNat ∧ c.toNat ≤ 57 := by
  induction u using Nat.strongRecOn with
  | _ u ih =>
    by_cases hu : u < 10
    · exact ⟨_, [], Lib.decDigits_one hu, by rw [digit_nat hu]; omega, by rw [digit_nat hu]; omega⟩
    · obtain ⟨c, r, e, h1, h2⟩ := ih (u / 10) (by omega)
      exact ⟨c, r ++ [UInt8.ofNat (48 + u % 10)], by rw [Lib.decDigits, dif_neg hu, e]; rfl, h1, h2⟩
/-- A text without its sign, and a number with the text's sign. -/
def unsg (t : List UInt8) : List UInt8 := if t.head? = some 45 then t.tail else t
def sgn (t : List UInt8) (m : Nat) : Int := if t.head? = some 45 then -(m : Int) else (m : Int)
theorem unsg_minus (r : List UInt8) : unsg (45 :: r) = r := rfl
theorem sgn_minus (r : List UInt8) (m : Nat) : sgn (45 :: r) m = -(m : Int) := rfl
theorem unsg_not {t : List UInt8} (h : ¬ t.head? = some 45) : unsg t = t := if_neg h
theorem sgn_not {t : List UInt8} (h : ¬ t.head? = some 45) (m : Nat) : sgn t m = (m : Int) := if_neg h
theorem sgn_abs (t : List UInt8) (m : Nat) : sgn t m = m ∨ sgn t m = -(m : Int) := by unfold sgn; split <;> simp
theorem dec_nohead (u : Nat) : ¬ (Lib.decDigits u).head? = some 45 := by
  obtain ⟨c, r, e, hc1, hc2⟩ := dec_head (u := u)
  rw [e]
  intro h
  have : c = 45 := Option.some.inj h
  rw [this] at hc1
  revert hc1; decide
/-- What the reference takes a numeral for. -/
def refnum (t : List UInt8) : Option Int :=
  match dig (unsg t) 0 0 with
  | none => none
  | some (m, d) => if d = 0 then none else if Lib.itoa (sgn t m) = t then some (sgn t m) else none
theorem itoa_neg' {v : Int} (h : v < 0) : Lib.itoa v = 45 :: Lib.decDigits v.natAbs := by unfold Lib.itoa; rw [if_pos h]
theorem itoa_pos' {v : Int} (h : ¬ v < 0) : Lib.itoa v = Lib.decDigits v.toNat := by unfold Lib.itoa; rw [if_neg h]
theorem refnum_iff (t : List UInt8) (v : Int) : refnum t = some v ↔ Canon t v := by
  constructor
  · intro h
    unfold refnum at h
    cases hd : dig (unsg t) 0 0 with
    | none => rw [hd] at h; cases h
    | some p =>
      obtain ⟨m, d⟩ := p
      rw [hd] at h
      obtain ⟨h1, h2⟩ := dig_bound _ 0 0 m d (by omega) (by decide) hd
      have h3 : m < 10 ^ 18 := Nat.lt_of_lt_of_le h2 (Nat.pow_le_pow_right (by decide) h1)
      rw [pow18] at h3
      have hs := sgn_abs t m
      have h' : (if d = 0 then none else if Lib.itoa (sgn t m) = t then some (sgn t m) else none) = some v := h
      by_cases h0 : d = 0
      · rw [if_pos h0] at h'; cases h'
      · rw [if_neg h0] at h'
        by_cases he : Lib.itoa (sgn t m) = t
        · rw [if_pos he] at h'
          have e := Option.some.inj h'
          rw [e] at he hs
          exact ⟨he.symm, by omega, by omega⟩
        · rw [if_neg he] at h'; cases h'
  · rintro ⟨rfl, h1, h2⟩
    unfold refnum
    by_cases hv : v < 0
    · rw [itoa_neg' hv]
      have hn := nDigits_le 18 v.natAbs (by decide) (by rw [pow18]; omega)
      have hp := Lib.nDigits_pos v.natAbs
      have e : -((v.natAbs : Nat) : Int) = v := by omega
      rw [unsg_minus, dig_dec _ hn]
      simp only [sgn_minus, e]
      rw [if_neg (by omega), if_pos (itoa_neg' hv)]
    · rw [itoa_pos' hv]
      have hn := nDigits_le 18 v.toNat (by decide) (by rw [pow18]; omega)
      have hp := Lib.nDigits_pos v.toNat
      have e2 : ((v.toNat : Nat) : Int) = v := by omega
      rw [unsg_not (dec_nohead _), dig_dec _ hn]
      simp only [sgn_not (dec_nohead _), e2]
      rw [if_neg (by omega), if_pos (itoa_pos' hv)]
theorem refnum_none (t : List UInt8) : refnum t = none ↔ ¬ ∃ v, Canon t v := by
  constructor
  · rintro h ⟨v, hv⟩
    rw [(refnum_iff t v).2 hv] at h
    cases h
  · intro h
    cases e : refnum t with
    | none => rfl
    | some v => exact absurd ⟨v, (refnum_iff t v).1 e⟩ h

theorem parse_snoc (l : List UInt8) (c : UInt8) : ∀ a m, Lib.parseUint10 a l = .ok m → 48 ≤ c.toNat → c.toNat ≤ 57 → m < 1844674407370955161 → Lib.parseUint10 a (l ++ [c]) = .ok (m * 10 + (c.toNat - 48)) := by
  induction l with
  | nil =>
    intro a m h h1 h2 h3
    simp only [Lib.parseUint10, Lib.NumEnd.ok.injEq] at h
    subst h
    simp only [List.nil_append, Lib.parseUint10, if_pos (And.intro h1 h2)]
    rw [if_neg (by omega), if_neg (by omega)]
  | cons b l ih =>
    intro a m h h1 h2 h3
    simp only [List.cons_append, Lib.parseUint10] at h ⊢
    split at h
    · rename_i hb
      rw [if_pos hb]
      split at h
      · cases h
      · rename_i hb2
        rw [if_neg hb2]
        split at h
        · cases h
        · rename_i hb3
          rw [if_neg hb3]
          exact ih _ m h h1 h2 h3
    · cases h
theorem parse_dec : ∀ u : Nat, u < 1000000000000000000 → Lib.parseUint10 0 (Lib.decDigits u) = .ok u := by
  intro u
  induction u using Nat.strongRecOn with
  | _ u ih =>
    intro h
    by_cases hu : u < 10
    · rw [Lib.decDigits_one hu]
      simp only [Lib.parseUint10, digit_nat hu]
      rw [if_pos (by omega), if_neg (by omega), if_neg (by omega)]
      congr 1
      omega
    · rw [Lib.decDigits, dif_neg hu, parse_snoc _ _ 0 (u / 10) (ih (u / 10) (by omega) (by omega)) (by rw [digit_nat (by omega)]; omega) (by rw [digit_nat (by omega)]; omega) (by omega), digit_nat (by omega)]
      congr 1
      omega
theorem mag_dec {u : Nat} (h : u < 1000000000000000000) : Lib.parseMag (Lib.decDigits u) = .ok u := by
  unfold Lib.parseMag
  obtain ⟨c, r, e, _, _⟩ := dec_head (u := u)
  rw [if_neg (by rw [e]; simp), parse_dec u h]
theorem atoi_itoa {v : Int} (h1 : -1000000000000000000 < v) (h2 : v < 1000000000000000000) : Lib.atoiAll (Lib.itoa v) = .ok v := by
  by_cases hv : v < 0
  · rw [itoa_neg' hv, Lib.atoiAll_minus, mag_dec (by omega)]
    unfold Lib.signed
    simp only
    rw [if_neg (by omega)]
    congr 1
    omega
  · rw [itoa_pos' hv]
    obtain ⟨c, r, e, hc1, hc2⟩ := dec_head (u := v.toNat)
    have hm := mag_dec (u := v.toNat) (by omega)
    rw [e] at hm ⊢
    rw [Lib.atoiAll_plain c r (by omega) (by omega), hm]
    unfold Lib.signless
    simp only
    rw [if_neg (by omega)]
    congr 1
    omega
/-- What the package takes a numeral for: what Atoi reads, if its numeral is the text, and has at most 18 digits. -/
theorem canon_iff_len {t : List UInt8} {n : Int} (h1 : t = Lib.itoa n) : Canon t n ↔ (unsg t).length ≤ 18 := by
  subst h1
  by_cases hv : n < 0
  · rw [itoa_neg' hv, unsg_minus, Lib.decDigits_length]
    constructor
    · rintro ⟨_, h1, h2⟩
      exact nDigits_le 18 _ (by decide) (by rw [pow18]; omega)
    · intro h
      have h2 := Lib.lt_pow_nDigits n.natAbs
      have h3 : 10 ^ Lib.nDigits n.natAbs ≤ 10 ^ 18 := Nat.pow_le_pow_right (by decide) h
      rw [pow18] at h3
      exact ⟨(itoa_neg' hv).symm, by omega, by omega⟩
  · rw [itoa_pos' hv, unsg_not (dec_nohead _), Lib.decDigits_length]
    constructor
    · rintro ⟨_, h1, h2⟩
      exact nDigits_le 18 _ (by decide) (by rw [pow18]; omega)
    · intro h
      have h2 := Lib.lt_pow_nDigits n.toNat
      have h3 : 10 ^ Lib.nDigits n.toNat ≤ 10 ^ 18 := Nat.pow_le_pow_right (by decide) h
      rw [pow18] at h3
      exact ⟨(itoa_pos' hv).symm, by omega, by omega⟩
theorem canon_unique {t : List UInt8} {a b : Int} (h1 : Canon t a) (h2 : Canon t b) : a = b := by
  have e1 := atoi_itoa h1.2.1 h1.2.2
  have e2 := atoi_itoa h2.2.1 h2.2.2
  rw [← h1.1] at e1
  rw [← h2.1, e1] at e2
  exact Lib.NumEnd.ok.inj e2
end Go.Proofs.YtigocjhmgmhocaaGreatDoor

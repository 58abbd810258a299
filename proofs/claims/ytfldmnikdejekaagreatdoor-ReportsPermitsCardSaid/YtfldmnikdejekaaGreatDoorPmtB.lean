/- What a report on permits says: bounds of its parts, and how many of its lines end with the word kept. Plain. -/
import Derived.Test.YtfldmnikdejekaaGreatDoorPmt
namespace Go.Proofs.YtfldmnikdejekaaGreatDoor
open Go.RowKit
set_option linter.unusedVariables false
set_option linter.unusedSimpArgs false

section
variable (P : Pms) (L : Evl) (from_ sec : Int)
theorem pfnd_bad {k : Nat} (h : perr P L from_ sec k ≠ 0) : pfnd P L from_ sec k = [] := by unfold pfnd chkL; exact if_neg h
theorem pfnd_ok {k : Nat} (h : perr P L from_ sec k = 0) : pfnd P L from_ sec k = finds (yrs (L.E k) from_ sec) (L.E k).Tot (L.N k) (P.Ev k) (P.Vol k) (P.Tot k) := by unfold pfnd chkL; exact if_pos h
theorem great_len (T : Nat → Int) (vol : Int) : ∀ n, (greatL T vol n).length ≤ n
  | 0 => Nat.le_refl _
  | n + 1 => by
    have := great_len T vol n
    unfold greatL
    rw [List.length_append]
    split <;> simp <;> omega
theorem pfnd_len (k : Nat) (h20 : L.N k ≤ 20) : (pfnd P L from_ sec k).length ≤ 60 := by
  by_cases h : perr P L from_ sec k = 0
  · rw [pfnd_ok P L from_ sec h]
    unfold finds manyL muchL
    rw [List.length_append, List.length_append, List.length_map, List.length_map, List.length_map]
    have h1 := List.length_filter_le (fun y => decide (P.Ev k < (cnt (yrs (L.E k) from_ sec) y (L.N k) : Int))) (keysTo (yrs (L.E k) from_ sec) (L.N k))
    have h2 := List.length_filter_le (fun y => decide (P.Tot k < sm (yrs (L.E k) from_ sec) (L.E k).Tot y (L.N k))) (keysTo (yrs (L.E k) from_ sec) (L.N k))
    have h3 := keys_len (yrs (L.E k) from_ sec) (L.N k)
    have h4 := great_len (L.E k).Tot (P.Vol k) (L.N k)
    omega
  · rw [pfnd_bad P L from_ sec h]; simp
theorem pfnd_mem {k : Nat} (h20 : L.N k ≤ 20) {p : Int × Int} (hp : p ∈ pfnd P L from_ sec k) : (p.1 = 1 ∨ p.1 = 2 ∨ p.1 = 3) ∧ 0 ≤ p.2 ∧ p.2 ≤ 9999 := by
  by_cases h : perr P L from_ sec k = 0
  · rw [pfnd_ok P L from_ sec h] at hp
    have hy := (yErr_zero h).2.2.2
    have key : ∀ y ∈ keysTo (yrs (L.E k) from_ sec) (L.N k), 0 ≤ y ∧ y ≤ 9999 := by
      intro y hy'
      obtain ⟨i, hi, e⟩ := mem_keys.1 hy'
      have := hy i hi
      rw [e] at this
      cases this with
      | ok h h2 => have := h2.lo; have := h2.hi; omega
    unfold finds at hp
    rcases List.mem_append.1 hp with hp | hp
    · rcases List.mem_append.1 hp with hp | hp
      · obtain ⟨y, hy1, rfl⟩ := List.mem_map.1 hp
        have := key y (List.mem_filter.1 hy1).1
        exact ⟨.inl rfl, this⟩
      · obtain ⟨y, hy1, rfl⟩ := List.mem_map.1 hp
        obtain ⟨i, hi, e, _⟩ := mem_great.1 hy1
        exact ⟨.inr (.inl rfl), by show 0 ≤ y; omega, by show y ≤ 9999; omega⟩
    · obtain ⟨y, hy1, rfl⟩ := List.mem_map.1 hp
      have := key y (List.mem_filter.1 hy1).1
      exact ⟨.inr (.inr rfl), this⟩
  · rw [pfnd_bad P L from_ sec h] at hp; cases hp
theorem plin_len (k : Nat) (h20 : L.N k ≤ 20) : (plin P L from_ sec k).length ≤ 60 := by
  have := pfnd_len P L from_ sec k h20
  unfold plin
  split
  · simp
  · simpa using this
theorem pout_len {n : Nat} (h20 : ∀ k, k < n → L.N k ≤ 20) : ∀ k, k ≤ n → (pout P L from_ sec k).length ≤ 60 * k
  | 0, _ => by simp [pout]
  | k + 1, hk => by
    have h1 := pout_len h20 k (by omega)
    have h2 := plin_len P L from_ sec k (h20 k (by omega))
    unfold pout
    rw [List.length_append]; omega
end
theorem fnm_small {v : Int} (h0 : 0 ≤ v) (h1 : v ≤ 9999) : (fnm v).size ≤ 19 := by
  have e : fnm v = ⟨(Lib.decDigits v.toNat).toArray⟩ := by unfold fnm; rw [itoa_pos' (by omega)]
  rw [e]
  exact dec_size (by omega)
theorem word_size (k : Int) : (wordB k).size ≤ 9 := by
  unfold wordB
  split
  · decide
  · split <;> decide
theorem bs_size (l : List UInt8) : (bs l).size = l.length := rfl
theorem bs_list (l : List UInt8) : (bs l).data.toList = l := by simp [bs]

/-- The word behind a space at the end of a line. -/
def sufK : List UInt8 := [32, 107, 101, 112, 116]
def isK (s : ByteArray) : Bool := Lib.hasSuffix s.data.toList sufK
theorem kline_suf (nm nd : ByteArray) : isK (kline nm nd) = true := by
  unfold isK kline Lib.hasSuffix
  rw [bs_list, jn_three, List.isSuffixOf_iff_suffix]
  refine ⟨nm.data.toList ++ 32 :: nd.data.toList, ?_⟩
  simp [wKp, sufK]
theorem itoa_no116 {v : Int} : ∀ c ∈ Lib.itoa v, c ≠ 116 := by
  have hd : ∀ u : Nat, ∀ c ∈ Lib.decDigits u, c ≠ 116 := by
    intro u
    induction u using Nat.strongRecOn with
    | _ u ih =>
      intro c hc e
      rw [Lib.decDigits] at hc
      split at hc
      · rename_i h10
        rw [List.mem_singleton.1 hc] at e
        have := digit_nat h10
        rw [e] at this
        have h32 : (116 : UInt8).toNat = 116 := rfl
        omega
      · rename_i h10
        rcases List.mem_append.1 hc with h | h
        · exact ih (u / 10) (by omega) c h e
        · rw [List.mem_singleton.1 h] at e
          have := digit_nat (show u % 10 < 10 by omega)
          rw [e] at this
          have h32 : (116 : UInt8).toNat = 116 := rfl
          omega
  intro c hc
  by_cases hv : v < 0
  · rw [itoa_neg' hv] at hc
    rcases List.mem_cons.1 hc with h | h
    · rw [h]; decide
    · exact hd _ c h
  · rw [itoa_pos' hv] at hc
    exact hd _ c hc
theorem itoa_ne {v : Int} : Lib.itoa v ≠ [] := by
  by_cases hv : v < 0
  · rw [itoa_neg' hv]; simp
  · rw [itoa_pos' hv, Lib.decDigits]
    split <;> simp
theorem fline_suf (nm nd : ByteArray) (p : Int × Int) : isK (fline nm nd p) = false := by
  rw [Bool.eq_false_iff]
  intro h
  unfold isK fline Lib.hasSuffix at h
  rw [bs_list, jn_four, List.isSuffixOf_iff_suffix] at h
  obtain ⟨t, ht⟩ := h
  have e1 := congrArg List.getLast? ht
  have hl : (Lib.itoa p.2).getLast? = some ((Lib.itoa p.2).getLast itoa_ne) := List.getLast?_eq_some_getLast itoa_ne
  have e3 : (fnm p.2).data.toList = Lib.itoa p.2 := by simp [fnm]
  rw [e3] at e1
  have e2 : (t ++ sufK).getLast? = some 116 := by simp [sufK]
  rw [e2] at e1
  have e4 : ∀ (a : List UInt8) (x : UInt8) (b : List UInt8), b ≠ [] → (a ++ x :: b).getLast? = b.getLast? := by
    intro a x b hb
    rw [List.getLast?_append, List.getLast?_cons]
    cases b with
    | nil => exact absurd rfl hb
    | cons y r => simp [List.getLast?_cons]
  rw [e4 _ _ _ (by simp), e4 _ _ _ (by simp), e4 _ _ _ itoa_ne, hl] at e1
  have := itoa_no116 (v := p.2) _ (List.getLast_mem itoa_ne)
  exact this (Option.some.inj e1).symm
/-- How many permits below k have no findings. -/
noncomputable def keptN (P : Pms) (L : Evl) (from_ sec : Int) : Nat → Nat
  | 0 => 0
  | k + 1 => keptN P L from_ sec k + (if (pfnd P L from_ sec k).length = 0 then 1 else 0)
/-- How many of the first lines end with the word. -/
def sufN (R : List ByteArray) : Nat → Nat
  | 0 => 0
  | k + 1 => sufN R k + (if isK (R.getD k ByteArray.empty) = true then 1 else 0)
theorem sufN_le (R : List ByteArray) : ∀ k, sufN R k ≤ k
  | 0 => Nat.le_refl _
  | k + 1 => by have := sufN_le R k; unfold sufN; split <;> omega
theorem keptN_le (P : Pms) (L : Evl) (from_ sec : Int) : ∀ k, keptN P L from_ sec k ≤ k
  | 0 => Nat.le_refl _
  | k + 1 => by have := keptN_le P L from_ sec k; unfold keptN; split <;> omega
def sufA (R : List ByteArray) : Nat := (R.filter isK).length
theorem sufN_take (R : List ByteArray) : ∀ k, k ≤ R.length → sufN R k = sufA (R.take k)
  | 0, _ => rfl
  | k + 1, h => by
    rw [List.take_succ_eq_append_getElem (by omega)]
    unfold sufN sufA
    rw [sufN_take R k (by omega), List.filter_append, List.length_append]
    have e : R.getD k ByteArray.empty = R[k]'(by omega) := by simp [List.getD, List.getElem?_eq_getElem (show k < R.length by omega)]
    rw [e]
    unfold sufA
    by_cases hk : isK (R[k]'(by omega)) = true
    · simp [hk]
    · simp [hk]
theorem sufA_app (a b : List ByteArray) : sufA (a ++ b) = sufA a + sufA b := by unfold sufA; rw [List.filter_append, List.length_append]
theorem sufA_lines (nm nd : ByteArray) (l : List (Int × Int)) : sufA (l.map (fline nm nd)) = 0 := by
  unfold sufA
  rw [List.length_eq_zero_iff, List.filter_eq_nil_iff]
  intro x hx
  obtain ⟨p, _, rfl⟩ := List.mem_map.1 hx
  rw [fline_suf]; simp
theorem sufA_out (P : Pms) (L : Evl) (from_ sec : Int) : ∀ n, sufA (pout P L from_ sec n) = keptN P L from_ sec n
  | 0 => rfl
  | k + 1 => by
    unfold pout keptN
    rw [sufA_app, sufA_out P L from_ sec k]
    congr 1
    unfold plin
    by_cases h : pfnd P L from_ sec k = []
    · rw [if_pos h, if_pos (by rw [h]; rfl)]
      unfold sufA
      simp [kline_suf]
    · rw [if_neg h, if_neg (by rw [List.length_eq_zero_iff]; exact h), sufA_lines]
theorem suf_kept (P : Pms) (L : Evl) (from_ sec : Int) (n : Nat) : sufN (pout P L from_ sec n) (pout P L from_ sec n).length = keptN P L from_ sec n := by
  rw [sufN_take _ _ (Nat.le_refl _), List.take_length, sufA_out]
end Go.Proofs.YtfldmnikdejekaaGreatDoor

/- The sum of two tables is a table, and between its knots it has nearly the sum of the values: plain mathematics. -/
import Derived.Test.YtpeelnjkppdkbaaGreatSumQ
namespace Go.Proofs.YtpeelnjkppdkbaaGreat
set_option linter.unusedVariables false
set_option linter.unusedSimpArgs false

section
variable {na nb ma mb : Nat} {XA YA XB YB : Nat → Int} {PL : List Int} {n : Nat} {P Q : Nat → Int}
/-- What is known of a sum's knots. -/
structure SumOf (na nb ma mb : Nat) (XA YA XB YB : Nat → Int) (n : Nat) (P Q : Nat → Int) : Prop where
  asc : ∀ i j, i < j → j < n → P i < P j
  memA : ∀ j, j < na → ∃ i, i < n ∧ P i = XA j
  memB : ∀ j, j < nb → ∃ i, i < n ∧ P i = XB j
  mem : ∀ i, i < n → (∃ j, j < na ∧ P i = XA j) ∨ (∃ j, j < nb ∧ P i = XB j)
  val : ∀ i, i < n → Q i = addY XA YA ma XB YB mb (P i)
  le : n ≤ na + nb
theorem sumOf (na nb ma mb : Nat) (XA YA XB YB : Nat → Int) : SumOf na nb ma mb XA YA XB YB (addP na XA YA nb XB YB).length (fun k => (addP na XA YA nb XB YB).getD k 0) (fun k => addY XA YA ma XB YB mb ((addP na XA YA nb XB YB).getD k 0)) := by
  obtain ⟨h1, h2, h3⟩ := addP_spec na nb XA YA XB YB
  generalize addP na XA YA nb XB YB = L at *
  have hget : ∀ i (h : i < L.length), L.getD i 0 = L[i] := fun i h => by rw [List.getD_eq_getElem?_getD, List.getElem?_eq_getElem h]; rfl
  refine ⟨fun i j hij hj => ?_, fun j hj => ?_, fun j hj => ?_, fun i hi => ?_, fun i hi => rfl, h3⟩
  · show L.getD i 0 < L.getD j 0
    rw [hget i (by omega), hget j hj]
    exact List.pairwise_iff_getElem.1 h1 i j (by omega) hj hij
  · obtain ⟨i, hi, e⟩ := List.mem_iff_getElem.1 ((h2 (XA j)).2 (.inl ⟨j, hj, rfl⟩))
    exact ⟨i, hi, by show L.getD i 0 = _; rw [hget i hi, e]⟩
  · obtain ⟨i, hi, e⟩ := List.mem_iff_getElem.1 ((h2 (XB j)).2 (.inr ⟨j, hj, rfl⟩))
    exact ⟨i, hi, by show L.getD i 0 = _; rw [hget i hi, e]⟩
  · have := (h2 (L.getD i 0)).1 (by rw [hget i hi]; exact List.getElem_mem hi)
    rcases this with ⟨j, hj, e⟩ | ⟨j, hj, e⟩
    · exact .inl ⟨j, hj, e⟩
    · exact .inr ⟨j, hj, e⟩
theorem SumOf.no_knot {N : Nat} {X : Nat → Int} (asc : ∀ i j, i < j → j < n → P i < P j) (hm : ∀ j, j < N → ∃ i, i < n ∧ P i = X j) {k : Nat} (hk : k + 1 < n) : ∀ j, j < N → ¬ (P k < X j ∧ X j < P (k + 1)) := by
  rintro j hj ⟨a, b⟩
  obtain ⟨i, hi, e⟩ := hm j hj
  rcases Nat.lt_trichotomy i k with h | h | h
  · have := asc i k h (by omega); omega
  · subst h; omega
  · rcases Nat.lt_or_ge (k + 1) i with h' | h'
    · have := asc (k + 1) i h' hi; omega
    · have : i = k + 1 := by omega
      subst this; omega
/-- On a piece of the sum: the exact sum is a line that does not descend, the sum's knots are its floors, and the values are near it. -/
theorem SumOf.piece (h : SumOf na nb ma mb XA YA XB YB n P Q) (ea : na = ma + 1) (eb : nb = mb + 1) (hA : Val.Asc XA YA ma) (hB : Val.Asc XB YB mb) {k : Nat} (hk : k + 1 < n) :
    ∃ D U V : Int, 0 < D ∧ 0 ≤ V ∧ ∀ x, P k ≤ x → x ≤ P (k + 1) → addY XA YA ma XB YB mb x * D ≤ U + V * x ∧ U + V * x < addY XA YA ma XB YB mb x * D + D ∧ (Val.val XA YA ma x + Val.val XB YB mb x) * D ≤ U + V * x ∧ U + V * x < (Val.val XA YA ma x + Val.val XB YB mb x + 2) * D := by
  have hlt := h.asc k (k + 1) (by omega) hk
  obtain ⟨D1, u1, v1, d1, w1, l1⟩ := exact_line hA hlt (fun j hj => SumOf.no_knot h.asc h.memA hk j (by omega))
  obtain ⟨D2, u2, v2, d2, w2, l2⟩ := exact_line hB hlt (fun j hj => SumOf.no_knot h.asc h.memB hk j (by omega))
  refine ⟨D1 * D2, u1 * D2 + u2 * D1, v1 * D2 + v2 * D1, Int.mul_pos d1 d2, by have := Int.mul_nonneg w1 (Int.le_of_lt d2); have := Int.mul_nonneg w2 (Int.le_of_lt d1); omega, fun x hx1 hx2 => ?_⟩
  have e : u1 * D2 + u2 * D1 + (v1 * D2 + v2 * D1) * x = (u1 + v1 * x) * D2 + (u2 + v2 * x) * D1 := by
    simp only [Int.add_mul, Int.mul_add, Int.mul_assoc, Int.mul_comm, Int.mul_left_comm]; omega
  rw [e]
  exact addY_exact (l1 x hx1 hx2) (l2 x hx1 hx2) d1 d2
theorem SumOf.mono (h : SumOf na nb ma mb XA YA XB YB n P Q) (ea : na = ma + 1) (eb : nb = mb + 1) (hA : Val.Asc XA YA ma) (hB : Val.Asc XB YB mb) {k : Nat} (hk : k + 1 < n) : Q k ≤ Q (k + 1) := by
  obtain ⟨D, U, V, hD, hV, hl⟩ := h.piece ea eb hA hB hk
  have hlt := h.asc k (k + 1) (by omega) hk
  have a := (hl (P k) (Int.le_refl _) (by omega)).1
  have b := (hl (P (k + 1)) (by omega) (Int.le_refl _)).2.1
  rw [← h.val k (by omega)] at a
  rw [← h.val (k + 1) hk] at b
  have c := Int.mul_le_mul_of_nonneg_left (show P k ≤ P (k + 1) by omega) hV
  apply Classical.byContradiction
  intro hn
  have := Int.mul_le_mul_of_nonneg_right (show Q (k + 1) + 1 ≤ Q k by omega) (Int.le_of_lt hD)
  rw [Int.add_mul, Int.one_mul] at this
  omega
theorem SumOf.ascQ (h : SumOf na nb ma mb XA YA XB YB n P Q) (ea : na = ma + 1) (eb : nb = mb + 1) (hA : Val.Asc XA YA ma) (hB : Val.Asc XB YB mb) {m : Nat} (hm : n = m + 1) : Val.Asc P Q m :=
  fun k hk => ⟨h.asc k (k + 1) (by omega) (by omega), h.mono ea eb hA hB (by omega)⟩
theorem SumOf.tab (h : SumOf na nb ma mb XA YA XB YB n P Q) (hvA : TabOK na XA YA) (hvB : TabOK nb XB YB) (ea : na = ma + 1) (eb : nb = mb + 1) (hA : Val.Asc XA YA ma) (hB : Val.Asc XB YB mb) (h100 : n ≤ 100) (hin : ∀ k, k < n → inB (Q k)) : TabOK n P Q := by
  refine ⟨?_, h100, fun k hk => ⟨?_, hin k hk, fun h0 => ?_⟩⟩
  · obtain ⟨i, hi, _⟩ := h.memA 0 (by omega); omega
  · rcases h.mem k hk with ⟨j, hj, e⟩ | ⟨j, hj, e⟩
    · rw [e]; exact (hvA.2.2 j hj).1
    · rw [e]; exact (hvB.2.2 j hj).1
  · have a := h.asc (k - 1) k (by omega) hk
    have b := h.mono ea eb hA hB (k := k - 1) (by omega)
    rw [show k - 1 + 1 = k by omega] at b
    exact ⟨a, b⟩
theorem SumOf.first (h : SumOf na nb ma mb XA YA XB YB n P Q) (ea : na = ma + 1) (eb : nb = mb + 1) (hA : Val.Asc XA YA ma) (hB : Val.Asc XB YB mb) : P 0 = min (XA 0) (XB 0) := by
  obtain ⟨i, hi, e⟩ := h.memA 0 (by omega)
  obtain ⟨j, hj, f⟩ := h.memB 0 (by omega)
  have a : P 0 ≤ P i := by
    rcases Nat.eq_zero_or_pos i with h0 | h0
    · subst h0; exact Int.le_refl _
    · exact Int.le_of_lt (h.asc 0 i h0 hi)
  have b : P 0 ≤ P j := by
    rcases Nat.eq_zero_or_pos j with h0 | h0
    · subst h0; exact Int.le_refl _
    · exact Int.le_of_lt (h.asc 0 j h0 hj)
  rcases h.mem 0 (by omega) with ⟨k, hk, g⟩ | ⟨k, hk, g⟩
  · have := (hA.mono (by omega : k ≤ ma) (Nat.zero_le k)).1
    omega
  · have := (hB.mono (by omega : k ≤ mb) (Nat.zero_le k)).1
    omega
theorem addY_flat {x : Int} (h1 : Val.rst XA YA ma x = 0) : addY XA YA ma XB YB mb x = Val.val XA YA ma x + Val.val XB YB mb x := by
  unfold addY; rw [h1, show (0 : Int).toNat = 0 from rfl, car_zero (.inl rfl)]; simp
/-- Between the knots the sum is at most 2 less than the sum of the values, and at most 1 more. -/
theorem SumOf.near (h : SumOf na nb ma mb XA YA XB YB n P Q) (ea : na = ma + 1) (eb : nb = mb + 1) (hA : Val.Asc XA YA ma) (hB : Val.Asc XB YB mb) {m : Nat} (hm : n = m + 1) (x : Int) :
    Val.val XA YA ma x + Val.val XB YB mb x - 2 ≤ Val.val P Q m x ∧ Val.val P Q m x ≤ Val.val XA YA ma x + Val.val XB YB mb x + 1 := by
  have hS := h.ascQ ea eb hA hB hm
  rcases Val.where_ x hS with hx | hx | ⟨k, hk, hx1, hx2⟩
  · have hf := h.first ea eb hA hB
    rw [(Val.val_first hS hx).1, h.val 0 (by omega)]
    have a1 := Val.val_first (Y := YA) hA (show x ≤ XA 0 by omega)
    have b1 := Val.val_first (Y := YB) hB (show x ≤ XB 0 by omega)
    have a2 := Val.val_first (Y := YA) hA (show P 0 ≤ XA 0 by omega)
    have b2 := Val.val_first (Y := YB) hB (show P 0 ≤ XB 0 by omega)
    rw [addY_flat a2.2, a1.1, b1.1, a2.1, b2.1]
    omega
  · have hA2 : XA ma ≤ P m := by
      obtain ⟨i, hi, e⟩ := h.memA ma (by omega)
      rcases Nat.lt_or_ge i m with h0 | h0
      · have := h.asc i m h0 (by omega); omega
      · have : i = m := by omega
        subst this; omega
    have hB2 : XB mb ≤ P m := by
      obtain ⟨i, hi, e⟩ := h.memB mb (by omega)
      rcases Nat.lt_or_ge i m with h0 | h0
      · have := h.asc i m h0 (by omega); omega
      · have : i = m := by omega
        subst this; omega
    rw [(Val.val_last hx).1, h.val m (by omega)]
    have a1 := Val.val_last (Y := YA) (show XA ma ≤ x by omega)
    have b1 := Val.val_last (Y := YB) (show XB mb ≤ x by omega)
    have a2 := Val.val_last (Y := YA) hA2
    have b2 := Val.val_last (Y := YB) hB2
    rw [addY_flat a2.2, a1.1, b1.1, a2.1, b2.1]
    omega
  · obtain ⟨D, U, V, hD, hV, hl⟩ := h.piece ea eb hA hB (k := k) (by omega)
    have hlt := h.asc k (k + 1) (by omega) (by omega)
    obtain ⟨a1, a2, _, _⟩ := hl (P k) (Int.le_refl _) (by omega)
    obtain ⟨b1, b2, _, _⟩ := hl (P (k + 1)) (by omega) (Int.le_refl _)
    obtain ⟨_, _, c1, c2⟩ := hl x hx1 (by omega)
    rw [← h.val k (by omega)] at a1 a2
    rw [← h.val (k + 1) (by omega)] at b1 b2
    rw [(Val.val_mid hS hk hx1 hx2).1]
    unfold Val.fl
    have hW : 0 < P (k + 1) - P k := by omega
    have z1 := Int.mul_ediv_add_emod ((Q (k + 1) - Q k) * (x - P k)) (P (k + 1) - P k)
    have z2 := Int.emod_nonneg ((Q (k + 1) - Q k) * (x - P k)) (by omega : P (k + 1) - P k ≠ 0)
    have z3 := Int.emod_lt_of_pos ((Q (k + 1) - Q k) * (x - P k)) hW
    have hf : (P (k + 1) - P k - (x - P k)) * (U + V * P k) + (x - P k) * (U + V * P (k + 1)) = (P (k + 1) - P k) * (U + V * x) := by
      simp only [Int.add_mul, Int.sub_mul, Int.mul_add, Int.mul_sub, Int.mul_assoc, Int.mul_comm, Int.mul_left_comm]; omega
    generalize (Q (k + 1) - Q k) * (x - P k) / (P (k + 1) - P k) = z at *
    rw [Int.mul_comm (P (k + 1) - P k) z] at z1
    obtain ⟨i1, i2⟩ := interp hD hW (show 0 ≤ x - P k by omega) (show x - P k ≤ P (k + 1) - P k by omega) a1 a2 b1 b2 (show z * (P (k + 1) - P k) ≤ _ by omega) (by omega) hf
    constructor
    · apply Classical.byContradiction
      intro hn
      have := Int.mul_le_mul_of_nonneg_right (show Q k + z + 2 + 1 ≤ Val.val XA YA ma x + Val.val XB YB mb x by omega) (Int.le_of_lt hD)
      simp only [Int.add_mul, Int.one_mul] at this i2 c1 c2
      omega
    · apply Classical.byContradiction
      intro hn
      have := Int.mul_le_mul_of_nonneg_right (show Val.val XA YA ma x + Val.val XB YB mb x + 2 ≤ Q k + z by omega) (Int.le_of_lt hD)
      omega
end
end Go.Proofs.YtpeelnjkppdkbaaGreat

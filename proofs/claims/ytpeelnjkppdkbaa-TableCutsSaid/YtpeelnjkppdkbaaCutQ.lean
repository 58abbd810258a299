/- A part of a table is a table, and its values are not above those of the table: plain mathematics. -/
import Derived.Test.YtpeelnjkppdkbaaCutP
import Derived.Test.YtpeelnjkppdkbaaSumR
namespace Go.Proofs.Ytpeelnjkppdkbaa
set_option linter.unusedVariables false
set_option linter.unusedSimpArgs false

theorem cutM_spec {X Y : Nat → Int} {m : Nat} (lo hi : Int) (ha : Val.Asc X Y m) : ∀ i, i ≤ m + 1 → (cutM X Y lo hi i).Pairwise (fun p q => p.1 < q.1) ∧ (∀ p, p ∈ cutM X Y lo hi i ↔ ∃ j, j < i ∧ lo < X j ∧ X j < hi ∧ p = (X j, Y j)) := by
  intro i
  induction i with
  | zero => intro _; exact ⟨List.Pairwise.nil, fun p => by simp [cutM]⟩
  | succ i ih =>
    intro hi1
    obtain ⟨h1, h2⟩ := ih (by omega)
    simp only [cutM]
    by_cases h : lo < X i ∧ X i < hi
    · rw [if_pos h]
      refine ⟨?_, fun p => ?_⟩
      · rw [List.pairwise_append]
        refine ⟨h1, List.pairwise_singleton _ _, fun p hp q hq => ?_⟩
        obtain ⟨j, hj, _, _, rfl⟩ := (h2 p).1 hp
        rw [List.mem_singleton.1 hq]
        exact ha.lt (by omega : i ≤ m) hj
      · rw [List.mem_append, h2, List.mem_singleton]
        constructor
        · rintro (⟨j, hj, e⟩ | e)
          · exact ⟨j, by omega, e⟩
          · exact ⟨i, by omega, h.1, h.2, e⟩
        · rintro ⟨j, hj, a, b, e⟩
          rcases Nat.lt_or_ge j i with g | g
          · exact .inl ⟨j, g, a, b, e⟩
          · have : j = i := by omega
            subst this; exact .inr e
    · rw [if_neg h, List.append_nil]
      refine ⟨h1, fun p => ?_⟩
      rw [h2]
      constructor
      · rintro ⟨j, hj, e⟩; exact ⟨j, by omega, e⟩
      · rintro ⟨j, hj, a, b, e⟩
        rcases Nat.lt_or_ge j i with g | g
        · exact ⟨j, g, a, b, e⟩
        · have : j = i := by omega
          subst this; exact absurd ⟨a, b⟩ h
/-- The knots of a part: from lo on, ascending, up to hi; values of the table; all knots of the table within. -/
theorem cutL_spec {X Y : Nat → Int} {m : Nat} {lo hi : Int} (ha : Val.Asc X Y m) (hle : lo ≤ hi) :
    (cutL X Y m lo hi).Pairwise (fun p q => p.1 < q.1) ∧ (∀ p ∈ cutL X Y m lo hi, lo ≤ p.1 ∧ p.1 ≤ hi ∧ p.2 = Val.val X Y m p.1) ∧
    (∀ j, j ≤ m → lo < X j → X j < hi → (X j, Y j) ∈ cutL X Y m lo hi) ∧ (lo, Val.val X Y m lo) ∈ cutL X Y m lo hi ∧ (hi, Val.val X Y m hi) ∈ cutL X Y m lo hi ∧ (cutL X Y m lo hi).length ≤ m + 3 := by
  obtain ⟨h1, h2⟩ := cutM_spec lo hi ha (m + 1) (Nat.le_refl _)
  have h3 := cutM_len X Y lo hi (m + 1)
  unfold cutL
  generalize cutM X Y lo hi (m + 1) = M at *
  have key : (((lo, Val.val X Y m lo) :: M)).Pairwise (fun p q : Int × Int => p.1 < q.1) := by
    rw [List.pairwise_cons]
    refine ⟨fun p hp => ?_, h1⟩
    obtain ⟨j, _, a, _, rfl⟩ := (h2 p).1 hp
    exact a
  have kin : ∀ p ∈ M, lo ≤ p.1 ∧ p.1 ≤ hi ∧ p.2 = Val.val X Y m p.1 := by
    intro p hp
    obtain ⟨j, hj, a, b, rfl⟩ := (h2 p).1 hp
    exact ⟨by show lo ≤ X j; omega, by show X j ≤ hi; omega, (Val.val_knot ha (by omega : j ≤ m)).1.symm⟩
  by_cases h : lo < hi
  · rw [if_pos h]
    refine ⟨?_, fun p hp => ?_, fun j hj a b => ?_, ?_, ?_, ?_⟩
    · rw [List.pairwise_append]
      refine ⟨key, List.pairwise_singleton _ _, fun p hp q hq => ?_⟩
      rw [List.mem_singleton.1 hq]
      rcases List.mem_cons.1 hp with e | hp
      · rw [e]; exact h
      · obtain ⟨j, _, _, b, rfl⟩ := (h2 p).1 hp
        exact b
    · rcases List.mem_append.1 hp with hp | hp
      · rcases List.mem_cons.1 hp with e | hp
        · rw [e]; exact ⟨Int.le_refl _, hle, rfl⟩
        · exact kin p hp
      · rw [List.mem_singleton.1 hp]; exact ⟨hle, Int.le_refl _, rfl⟩
    · exact List.mem_append_left _ (List.mem_cons_of_mem _ ((h2 _).2 ⟨j, by omega, a, b, rfl⟩))
    · exact List.mem_append_left _ (List.mem_cons_self)
    · exact List.mem_append_right _ (List.mem_singleton.2 rfl)
    · simp only [List.length_append, List.length_cons, List.length_nil]; omega
  · have e : lo = hi := by omega
    subst e
    rw [if_neg h, List.append_nil]
    refine ⟨key, fun p hp => ?_, fun j hj a b => by omega, List.mem_cons_self, List.mem_cons_self, ?_⟩
    · rcases List.mem_cons.1 hp with e | hp
      · rw [e]; exact ⟨Int.le_refl _, Int.le_refl _, rfl⟩
      · exact kin p hp
    · simp only [List.length_cons]; omega
/-- What the law asks of the part. -/
structure PartOf (m : Nat) (X Y : Nat → Int) (lo hi : Int) (N : Nat) (P Q : Nat → Int) : Prop where
  pos : 1 ≤ N
  le : N ≤ m + 3
  asc : ∀ i j, i < j → j < N → P i < P j
  inn : ∀ i, i < N → lo ≤ P i ∧ P i ≤ hi ∧ Q i = Val.val X Y m (P i)
  mem : ∀ j, j ≤ m → lo < X j → X j < hi → ∃ i, i < N ∧ P i = X j
  atlo : ∃ i, i < N ∧ P i = lo
  athi : ∃ i, i < N ∧ P i = hi
theorem kX_get {L : List (Int × Int)} {k : Nat} (h : k < L.length) : kX L k = L[k].1 ∧ kY L k = L[k].2 := by
  unfold kX kY
  rw [List.getD_eq_getElem?_getD, List.getElem?_eq_getElem h]
  exact ⟨rfl, rfl⟩
theorem partOf {X Y : Nat → Int} {m : Nat} {lo hi : Int} (ha : Val.Asc X Y m) (hle : lo ≤ hi) : PartOf m X Y lo hi (cutL X Y m lo hi).length (kX (cutL X Y m lo hi)) (kY (cutL X Y m lo hi)) := by
  obtain ⟨h1, h2, h3, h4, h5, h6⟩ := cutL_spec ha hle
  generalize cutL X Y m lo hi = L at *
  have hm : ∀ p, p ∈ L → ∃ i, i < L.length ∧ kX L i = p.1 := fun p hp => by
    obtain ⟨i, hi, e⟩ := List.mem_iff_getElem.1 hp
    exact ⟨i, hi, by rw [(kX_get hi).1, e]⟩
  refine ⟨?_, h6, fun i j hij hj => ?_, fun i hi => ?_, fun j hj a b => hm _ (h3 j hj a b), hm _ h4, hm _ h5⟩
  · obtain ⟨i, hi, _⟩ := hm _ h4; omega
  · rw [(kX_get (by omega : i < L.length)).1, (kX_get hj).1]
    exact List.pairwise_iff_getElem.1 h1 i j (by omega) hj hij
  · have := h2 L[i] (List.getElem_mem hi)
    rw [(kX_get hi).1, (kX_get hi).2]
    exact this
section
variable {m N : Nat} {X Y P Q : Nat → Int} {lo hi : Int}
theorem PartOf.mono (h : PartOf m X Y lo hi N P Q) {i j : Nat} (hij : i ≤ j) (hj : j < N) : P i ≤ P j := by
  rcases Nat.lt_or_ge i j with g | g
  · exact Int.le_of_lt (h.asc i j g hj)
  · have : i = j := by omega
    subst this; exact Int.le_refl _
theorem PartOf.first (h : PartOf m X Y lo hi N P Q) : P 0 = lo := by
  obtain ⟨i, hi, e⟩ := h.atlo
  have a := h.mono (Nat.zero_le i) hi
  have b := (h.inn 0 h.pos).1
  omega
theorem PartOf.last (h : PartOf m X Y lo hi N P Q) {M : Nat} (hM : N = M + 1) : P M = hi := by
  obtain ⟨i, hi, e⟩ := h.athi
  have a := h.mono (show i ≤ M by omega) (by omega)
  have b := (h.inn M (by omega)).2.1
  omega
theorem PartOf.ascP (h : PartOf m X Y lo hi N P Q) (ha : Val.Asc X Y m) {M : Nat} (hM : N = M + 1) : Val.Asc P Q M :=
  fun k hk => by
    have a := h.asc k (k + 1) (by omega) (by omega)
    refine ⟨a, ?_⟩
    rw [(h.inn k (by omega)).2.2, (h.inn (k + 1) (by omega)).2.2]
    exact Val.val_mono ha (Int.le_of_lt a)
theorem PartOf.tab (h : PartOf m X Y lo hi N P Q) (hv : TabOK (m + 1) X Y) (ha : Val.Asc X Y m) (hlo : inB lo) (hhi : inB hi) (h100 : N ≤ 100) : TabOK N P Q := by
  obtain ⟨M, hM⟩ : ∃ M, N = M + 1 := ⟨N - 1, by have := h.pos; omega⟩
  have hP := h.ascP ha hM
  refine ⟨h.pos, h100, fun k hk => ⟨?_, ?_, fun h0 => ?_⟩⟩
  · have := h.inn k hk
    unfold inB at *; omega
  · rw [(h.inn k hk).2.2]; exact val_in _ hv
  · have := hP (k - 1) (by omega)
    rw [show k - 1 + 1 = k by omega] at this
    exact this
/-- A value of the part is not above the table's. -/
theorem PartOf.below (h : PartOf m X Y lo hi N P Q) (ha : Val.Asc X Y m) {M : Nat} (hM : N = M + 1) (x : Int) (h1 : lo ≤ x) (h2 : x ≤ hi) : Val.val P Q M x ≤ Val.val X Y m x := by
  have hP := h.ascP ha hM
  rcases Val.where_ x hP with hx | hx | ⟨k, hk, hx1, hx2⟩
  · have hf := h.first
    have e : x = P 0 := by omega
    rw [(Val.val_first hP hx).1, (h.inn 0 h.pos).2.2, ← e]; exact Int.le_refl _
  · have hf := h.last hM
    have e : x = P M := by omega
    rw [(Val.val_last hx).1, (h.inn M (by omega)).2.2, ← e]; exact Int.le_refl _
  · have hlt := h.asc k (k + 1) (by omega) (by omega)
    have i0 := h.inn k (by omega)
    have i1 := h.inn (k + 1) (by omega)
    obtain ⟨D, u, v, hD, hv, hl⟩ := exact_line ha hlt (fun j hj hh => by
      obtain ⟨i, hi, e⟩ := h.mem j hj (by omega) (by omega)
      rcases Nat.lt_or_ge i (k + 1) with g | g
      · have := h.mono (show i ≤ k by omega) (by omega); omega
      · have := h.mono g hi; omega)
    obtain ⟨r0, e0, a0, b0, _⟩ := hl (P k) (Int.le_refl _) (by omega)
    obtain ⟨r1, e1, a1, b1, _⟩ := hl (P (k + 1)) (by omega) (Int.le_refl _)
    obtain ⟨r2, e2, a2, b2, _⟩ := hl x hx1 (by omega)
    rw [← i0.2.2] at e0
    rw [← i1.2.2] at e1
    rw [(Val.val_mid hP hk hx1 hx2).1]
    unfold Val.fl
    have hW : 0 < P (k + 1) - P k := by omega
    have z1 := Int.mul_ediv_add_emod ((Q (k + 1) - Q k) * (x - P k)) (P (k + 1) - P k)
    have z2 := Int.emod_nonneg ((Q (k + 1) - Q k) * (x - P k)) (by omega : P (k + 1) - P k ≠ 0)
    have z3 := Int.emod_lt_of_pos ((Q (k + 1) - Q k) * (x - P k)) hW
    have hf : (P (k + 1) - P k - (x - P k)) * (u + v * P k) + (x - P k) * (u + v * P (k + 1)) = (P (k + 1) - P k) * (u + v * x) := by
      simp only [Int.add_mul, Int.sub_mul, Int.mul_add, Int.mul_sub, Int.mul_assoc, Int.mul_comm, Int.mul_left_comm]; omega
    generalize (Q (k + 1) - Q k) * (x - P k) / (P (k + 1) - P k) = z at *
    rw [Int.mul_comm (P (k + 1) - P k) z] at z1
    obtain ⟨j1, _⟩ := interp hD hW (show 0 ≤ x - P k by omega) (show x - P k ≤ P (k + 1) - P k by omega) (show Q k * D ≤ _ by omega) (by omega) (show Q (k + 1) * D ≤ _ by omega) (by omega) (show z * (P (k + 1) - P k) ≤ _ by omega) (by omega) hf
    apply Classical.byContradiction
    intro hn
    have := Int.mul_le_mul_of_nonneg_right (show Val.val X Y m x + 1 ≤ Q k + z by omega) (Int.le_of_lt hD)
    rw [Int.add_mul, Int.one_mul] at this
    omega
end
end Go.Proofs.Ytpeelnjkppdkbaa

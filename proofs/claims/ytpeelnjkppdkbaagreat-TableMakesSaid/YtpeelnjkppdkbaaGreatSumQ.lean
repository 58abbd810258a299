/- The places of a sum ascend, and are the knots of both tables; the sum's values at its knots, and between them: plain mathematics. -/
import Derived.Test.YtpeelnjkppdkbaaGreatSumP
namespace Go.Proofs.YtpeelnjkppdkbaaGreat
set_option linter.unusedVariables false
set_option linter.unusedSimpArgs false

theorem compact_inv (d : Array Int) (hs : ∀ i j, i ≤ j → j < d.size → d[i]! ≤ d[j]!) : ∀ m, m ≤ d.size → (Lib.compactUpTo d m).Pairwise (· < ·) ∧ (∀ x, x ∈ Lib.compactUpTo d m ↔ ∃ j, j < m ∧ x = d[j]!) := by
  intro m
  induction m with
  | zero => intro _; exact ⟨by simp [Lib.compactUpTo], fun x => by simp [Lib.compactUpTo]⟩
  | succ m ih =>
    intro hm
    obtain ⟨h1, h2⟩ := ih (by omega)
    rw [Lib.compactUpTo_succ]
    by_cases hk : Lib.keeps d m = true
    · rw [if_pos hk]
      have hlt : ∀ x, x ∈ Lib.compactUpTo d m → x < d[m]! := by
        intro x hx
        obtain ⟨j, hj, rfl⟩ := (h2 x).1 hx
        have a := hs j (m - 1) (by omega) (by omega)
        have b := hs (m - 1) m (by omega) (by omega)
        have c : d[m]! ≠ d[m - 1]! := by
          have := of_decide_eq_true hk
          rcases this with h | h
          · omega
          · exact h
        omega
      refine ⟨?_, fun x => ?_⟩
      · rw [List.pairwise_append]
        exact ⟨h1, List.pairwise_singleton _ _, fun a ha b hb => by rw [List.mem_singleton.1 hb]; exact hlt a ha⟩
      · rw [List.mem_append, h2, List.mem_singleton]
        constructor
        · rintro (⟨j, hj, e⟩ | e)
          · exact ⟨j, by omega, e⟩
          · exact ⟨m, by omega, e⟩
        · rintro ⟨j, hj, e⟩
          rcases Nat.lt_or_ge j m with h | h
          · exact .inl ⟨j, h, e⟩
          · have : j = m := by omega
            subst this; exact .inr e
    · rw [if_neg hk, List.append_nil]
      refine ⟨h1, fun x => ?_⟩
      rw [h2]
      have hm0 : m ≠ 0 ∧ d[m]! = d[m - 1]! := by
        have hn : ¬ (m = 0 ∨ d[m]! ≠ d[m - 1]!) := fun h => hk (decide_eq_true h)
        constructor
        · intro h; exact hn (.inl h)
        · exact Classical.byContradiction fun h => hn (.inr h)
      constructor
      · rintro ⟨j, hj, e⟩; exact ⟨j, by omega, e⟩
      · rintro ⟨j, hj, e⟩
        rcases Nat.lt_or_ge j m with h | h
        · exact ⟨j, h, e⟩
        · have : j = m := by omega
          subst this
          exact ⟨j - 1, by omega, by rw [e, hm0.2]⟩
theorem compact_sorted (l : List Int) (h : l.Pairwise (· ≤ ·)) : (Lib.compact l).Pairwise (· < ·) ∧ ∀ x, x ∈ Lib.compact l ↔ x ∈ l := by
  have hs : ∀ i j, i ≤ j → j < l.toArray.size → l.toArray[i]! ≤ l.toArray[j]! := by
    intro i j hij hj
    have hj' : j < l.length := by simpa using hj
    rw [getElem!_pos l.toArray i (by simp; omega), getElem!_pos l.toArray j hj]
    simp only [List.getElem_toArray]
    rcases Nat.lt_or_ge i j with h1 | h1
    · exact List.pairwise_iff_getElem.1 h i j (by omega) hj' h1
    · have : i = j := by omega
      subst this; exact Int.le_refl _
  obtain ⟨a, b⟩ := compact_inv l.toArray hs l.length (by simp)
  refine ⟨a, fun x => ?_⟩
  have := b x
  unfold Lib.compact
  rw [this]
  constructor
  · rintro ⟨j, hj, rfl⟩
    rw [getElem!_pos l.toArray j (by simpa using hj)]
    simp
  · intro hx
    obtain ⟨j, hj, e⟩ := List.mem_iff_getElem.1 hx
    exact ⟨j, hj, by rw [getElem!_pos l.toArray j (by simpa using hj)]; simpa using e.symm⟩
/-- The places: ascending, and just the knots of both. -/
theorem addP_spec (na nb : Nat) (XA YA XB YB : Nat → Int) : (addP na XA YA nb XB YB).Pairwise (· < ·) ∧ (∀ x, x ∈ addP na XA YA nb XB YB ↔ (∃ j, j < na ∧ x = XA j) ∨ (∃ j, j < nb ∧ x = XB j)) ∧ (addP na XA YA nb XB YB).length ≤ na + nb := by
  unfold addP
  rw [pre_tl]
  obtain ⟨a, b⟩ := compact_sorted _ (le_sorted (pre XA na ++ pre XB nb))
  refine ⟨a, fun x => ?_, ?_⟩
  · rw [b, (List.mergeSort_perm _ _).mem_iff, List.mem_append]
    unfold pre
    simp only [List.mem_map, List.mem_range]
    constructor
    · rintro (⟨j, hj, e⟩ | ⟨j, hj, e⟩)
      · exact .inl ⟨j, hj, e.symm⟩
      · exact .inr ⟨j, hj, e.symm⟩
    · rintro (⟨j, hj, e⟩ | ⟨j, hj, e⟩)
      · exact .inl ⟨j, hj, e.symm⟩
      · exact .inr ⟨j, hj, e.symm⟩
  · refine Nat.le_trans (Lib.compact_length_le _) ?_
    rw [List.length_mergeSort, List.length_append, pre_len, pre_len]; exact Nat.le_refl _

/-- D times the exact value is N. -/
def Exact (X Y : Nat → Int) (m : Nat) (x D N : Int) : Prop := ∃ r : Int, N = Val.val X Y m x * D + r ∧ 0 ≤ r ∧ r < D ∧ ((Val.rst X Y m x = 0 ∧ r = 0) ∨ (r = Val.rst X Y m x ∧ D = (Val.dn X m x : Int)))
/-- A table between two numbers, none of its knots strictly between them: exact values lie on a line that does not descend. -/
theorem exact_line {X Y : Nat → Int} {m : Nat} {p q : Int} (ha : Val.Asc X Y m) (hpq : p < q) (hno : ∀ j, j ≤ m → ¬ (p < X j ∧ X j < q)) :
    ∃ D u v : Int, 0 < D ∧ 0 ≤ v ∧ ∀ x, p ≤ x → x ≤ q → Exact X Y m x D (u + v * x) := by
  by_cases h0 : q ≤ X 0
  · exact ⟨1, Y 0, 0, by omega, by omega, fun x _ h => by
      have := Val.val_first (Y := Y) ha (show x ≤ X 0 by omega)
      exact ⟨0, by rw [this.1]; omega, by omega, by omega, .inl ⟨this.2, rfl⟩⟩⟩
  · by_cases h1 : X m ≤ p
    · exact ⟨1, Y m, 0, by omega, by omega, fun x h _ => by
        have := Val.val_last (Y := Y) (show X m ≤ x by omega)
        exact ⟨0, by rw [this.1]; omega, by omega, by omega, .inl ⟨this.2, rfl⟩⟩⟩
    · have hp0 : X 0 ≤ p := by
        have := hno 0 (Nat.zero_le m)
        omega
      have hex : ∃ k, k < m ∧ X k ≤ p ∧ p < X (k + 1) := by
        rcases Val.where_ p ha with h | h | h
        · have hpe : p = X 0 := by omega
          have hm : 0 < m := by
            rcases Nat.eq_zero_or_pos m with e | e
            · subst e; omega
            · exact e
          exact ⟨0, hm, by omega, by have := (ha 0 hm).1; omega⟩
        · exact absurd h h1
        · exact h
      obtain ⟨k, hk, hk1, hk2⟩ := hex
      have hq : q ≤ X (k + 1) := by
        have := hno (k + 1) (by omega)
        omega
      have hD : 0 < X (k + 1) - X k := by omega
      refine ⟨X (k + 1) - X k, Y k * (X (k + 1) - X k) - (Y (k + 1) - Y k) * X k, Y (k + 1) - Y k, hD, by have := (ha k hk).2; omega, fun x hx1 hx2 => ?_⟩
      have e : Y k * (X (k + 1) - X k) - (Y (k + 1) - Y k) * X k + (Y (k + 1) - Y k) * x = Y k * (X (k + 1) - X k) + (Y (k + 1) - Y k) * (x - X k) := by
        rw [Int.mul_sub (Y (k + 1) - Y k)]; omega
      rw [e]
      rcases Int.lt_or_eq_of_le (show x ≤ X (k + 1) by omega) with h | h
      · have hv := Val.val_mid (Y := Y) ha hk (show X k ≤ x by omega) h
        refine ⟨Val.rst X Y m x, ?_, ?_, ?_, .inr ⟨rfl, ?_⟩⟩
        · rw [hv.1, hv.2]
          unfold Val.fl Val.rs
          rw [Int.add_mul, Int.add_assoc, Int.mul_comm (_ / _), Int.mul_ediv_add_emod]
        · rw [hv.2]; exact Int.emod_nonneg _ (by omega)
        · rw [hv.2]; exact Int.emod_lt_of_pos _ hD
        · rw [Val.dn_mid ha hk (show X k ≤ x by omega) h]; omega
      · subst h
        have hv := Val.val_knot (Y := Y) ha (show k + 1 ≤ m by omega)
        refine ⟨0, ?_, by omega, hD, .inl ⟨hv.2, rfl⟩⟩
        rw [hv.1, ← Int.add_mul]
        have : Y k + (Y (k + 1) - Y k) = Y (k + 1) := by omega
        rw [this]; omega
theorem addY_exact {XA YA XB YB : Nat → Int} {ma mb : Nat} {x D1 D2 N1 N2 : Int} (h1 : Exact XA YA ma x D1 N1) (h2 : Exact XB YB mb x D2 N2) (p1 : 0 < D1) (p2 : 0 < D2) :
    addY XA YA ma XB YB mb x * (D1 * D2) ≤ N1 * D2 + N2 * D1 ∧ N1 * D2 + N2 * D1 < addY XA YA ma XB YB mb x * (D1 * D2) + D1 * D2 ∧
    (Val.val XA YA ma x + Val.val XB YB mb x) * (D1 * D2) ≤ N1 * D2 + N2 * D1 ∧ N1 * D2 + N2 * D1 < (Val.val XA YA ma x + Val.val XB YB mb x + 2) * (D1 * D2) := by
  obtain ⟨r, e1, r0, r1, k1⟩ := h1
  obtain ⟨s, e2, s0, s1, k2⟩ := h2
  unfold addY
  generalize Val.val XA YA ma x = a at *
  generalize Val.val XB YB mb x = b at *
  have q1 : 0 ≤ r * D2 := Int.mul_nonneg r0 (by omega)
  have q2 : 0 ≤ s * D1 := Int.mul_nonneg s0 (by omega)
  have q3 : r * D2 < D1 * D2 := Int.mul_lt_mul_of_pos_right r1 p2
  have q4 : s * D1 < D1 * D2 := by rw [Int.mul_comm D1]; exact Int.mul_lt_mul_of_pos_right s1 p1
  have eN : N1 * D2 + N2 * D1 = (a + b) * (D1 * D2) + (r * D2 + s * D1) := by
    rw [e1, e2, Int.add_mul, Int.add_mul, Int.add_mul]
    have x1 : a * D1 * D2 = a * (D1 * D2) := Int.mul_assoc _ _ _
    have x2 : b * D2 * D1 = b * (D1 * D2) := by rw [Int.mul_assoc, Int.mul_comm D2]
    omega
  have hc : (if car (Val.rst XA YA ma x).toNat (Val.dn XA ma x) (Val.rst XB YB mb x).toNat (Val.dn XB mb x) then (1 : Int) else 0) = if D1 * D2 ≤ r * D2 + s * D1 then 1 else 0 := by
    have hcar : car (Val.rst XA YA ma x).toNat (Val.dn XA ma x) (Val.rst XB YB mb x).toNat (Val.dn XB mb x) = decide (D1 * D2 ≤ r * D2 + s * D1) := by
      rcases k1 with ⟨z1, z2⟩ | ⟨z1, z2⟩
      · rw [z1, show (0 : Int).toNat = 0 from rfl, car_zero (.inl rfl)]
        rw [z2, Int.zero_mul]
        exact (decide_eq_false (by omega)).symm
      · rcases k2 with ⟨y1, y2⟩ | ⟨y1, y2⟩
        · rw [y1, show (0 : Int).toNat = 0 from rfl, car_zero (.inr rfl)]
          rw [y2, Int.zero_mul]
          exact (decide_eq_false (by omega)).symm
        · rw [← z1, ← y1]
          obtain ⟨R, hR⟩ : ∃ R : Nat, r = (R : Int) := ⟨r.toNat, by omega⟩
          obtain ⟨S, hS⟩ : ∃ S : Nat, s = (S : Int) := ⟨s.toNat, by omega⟩
          generalize Val.dn XA ma x = d at *
          generalize Val.dn XB mb x = c at *
          subst hR hS z2 y2
          rw [Int.toNat_natCast, Int.toNat_natCast]
          unfold car
          rw [decide_eq_decide]
          have i1 : ((R * c : Nat) : Int) = (R : Int) * (c : Int) := Int.natCast_mul _ _
          have i2 : ((S * d : Nat) : Int) = (S : Int) * (d : Int) := Int.natCast_mul _ _
          have i3 : ((c * d : Nat) : Int) = (d : Int) * (c : Int) := by rw [Nat.mul_comm]; exact Int.natCast_mul _ _
          constructor
          · rintro ⟨_, _, h⟩; omega
          · intro h
            refine ⟨?_, ?_, by omega⟩
            · rcases Nat.eq_zero_or_pos R with h0 | h0
              · subst h0; rw [Int.natCast_zero, Int.zero_mul] at h q3; omega
              · exact h0
            · rcases Nat.eq_zero_or_pos S with h0 | h0
              · subst h0; rw [Int.natCast_zero, Int.zero_mul] at h q4; omega
              · exact h0
    rw [hcar]
    by_cases h : D1 * D2 ≤ r * D2 + s * D1
    · rw [if_pos h, decide_eq_true h]; rfl
    · rw [if_neg h, decide_eq_false h]; rfl
  rw [hc, eN]
  have w1 : (a + b + 2) * (D1 * D2) = (a + b) * (D1 * D2) + 2 * (D1 * D2) := Int.add_mul _ _ _
  by_cases h : D1 * D2 ≤ r * D2 + s * D1
  · rw [if_pos h, Int.add_mul (a + b) 1, Int.one_mul]
    refine ⟨by omega, by omega, by omega, by omega⟩
  · rw [if_neg h, Int.add_zero]
    refine ⟨by omega, by omega, by omega, by omega⟩
theorem interp {D W t q0 q1 f0 f1 fx z : Int} (hD : 0 < D) (hW : 0 < W) (ht : 0 ≤ t) (htW : t ≤ W) (h0 : q0 * D ≤ f0) (h0' : f0 < q0 * D + D) (h1 : q1 * D ≤ f1) (h1' : f1 < q1 * D + D) (hz : z * W ≤ (q1 - q0) * t) (hz' : (q1 - q0) * t < z * W + W) (hf : (W - t) * f0 + t * f1 = W * fx) :
    (q0 + z) * D ≤ fx ∧ fx < (q0 + z) * D + D + D := by
  have a1 := Int.mul_le_mul_of_nonneg_left h0 (show 0 ≤ W - t by omega)
  have a2 := Int.mul_le_mul_of_nonneg_left h1 ht
  have b1 := Int.mul_le_mul_of_nonneg_left (Int.le_of_lt h0') (show 0 ≤ W - t by omega)
  have b2 := Int.mul_le_mul_of_nonneg_left (Int.le_of_lt h1') ht
  have c1 := Int.mul_le_mul_of_nonneg_right hz (Int.le_of_lt hD)
  have c2 := Int.mul_lt_mul_of_pos_right hz' hD
  constructor
  · apply Classical.byContradiction
    intro hn
    have := Int.mul_lt_mul_of_pos_left (show fx < (q0 + z) * D by omega) hW
    simp only [Int.add_mul, Int.sub_mul, Int.mul_add, Int.mul_sub, Int.mul_assoc, Int.mul_comm, Int.mul_left_comm] at *
    omega
  · apply Classical.byContradiction
    intro hn
    have := Int.mul_le_mul_of_nonneg_left (show (q0 + z) * D + D + D ≤ fx by omega) (Int.le_of_lt hW)
    simp only [Int.add_mul, Int.sub_mul, Int.mul_add, Int.mul_sub, Int.mul_assoc, Int.mul_comm, Int.mul_left_comm] at *
    omega
end Go.Proofs.YtpeelnjkppdkbaaGreat

/- Values as fractions do not descend; no program stands here but in the imports. -/
import Derived.Test.YtpeelnjkppdkbaaGreatFrac
import Derived.Test.YtpeelnjkppdkbaaGreatAt
import Derived.Test.YtpeelnjkppdkbaaGreatInv
namespace Go.Proofs.YtpeelnjkppdkbaaGreat
set_option linter.unusedVariables false
set_option linter.unusedSimpArgs false

theorem up_le_of {X Y : Nat → Int} {m k : Nat} {x : Int} (ha : Val.Asc X Y m) (hk : k < m) (h1 : X k ≤ x) (h2 : x < X (k + 1)) : Val.up X Y m x ≤ Y (k + 1) := by
  rw [Val.up_mid ha hk h1 h2]
  have := ha k hk
  exact Int.mul_le_mul_of_nonneg_left (by omega) (by omega)
/-- Values as fractions do not descend. -/
theorem frac_mono {X Y : Nat → Int} {m d d' : Nat} {x y : Int} (ha : Val.Asc X Y m) (hx : Val.DenOK X Y m x d) (hy : Val.DenOK X Y m y d') (h : x ≤ y) :
    (Val.val X Y m x * d + Val.rst X Y m x) * d' ≤ (Val.val X Y m y * d' + Val.rst X Y m y) * d := by
  obtain ⟨d0, _, r0, r1, rd⟩ := hx
  obtain ⟨d0', _, r0', r1', rd'⟩ := hy
  by_cases hu : Val.up X Y m x ≤ Val.val X Y m y
  · have e1 : Val.val X Y m x * d + Val.rst X Y m x ≤ Val.val X Y m y * d := by
      have h1 := Int.mul_le_mul_of_nonneg_right hu (by omega : (0 : Int) ≤ d)
      unfold Val.up at h1
      by_cases hr : 0 < Val.rst X Y m x
      · rw [if_pos hr, Int.add_mul, Int.one_mul] at h1; omega
      · rw [if_neg hr, Int.add_zero] at h1; omega
    have e2 := Int.mul_le_mul_of_nonneg_right e1 (by omega : (0 : Int) ≤ d')
    have e3 : Val.val X Y m y * d * d' = Val.val X Y m y * d' * d := by rw [Int.mul_assoc, Int.mul_comm (d : Int), ← Int.mul_assoc]
    have e4 : Val.val X Y m y * d' * d ≤ (Val.val X Y m y * d' + Val.rst X Y m y) * d := Int.mul_le_mul_of_nonneg_right (by omega) (by omega)
    omega
  · have hm := Val.val_mono ha h
    have hum := Val.up_mono ha h
    have hux : Val.up X Y m x = Val.val X Y m x + 1 ∧ 0 < Val.rst X Y m x := by
      unfold Val.up at *
      by_cases hr : 0 < Val.rst X Y m x
      · rw [if_pos hr]; exact ⟨rfl, hr⟩
      · rw [if_neg hr] at hu; omega
    have hv : Val.val X Y m y = Val.val X Y m x := by omega
    have huy : 0 < Val.rst X Y m y := by
      apply Classical.byContradiction
      intro hr
      have : Val.up X Y m y = Val.val X Y m y := by unfold Val.up; rw [if_neg hr, Int.add_zero]
      omega
    have hxi : ∃ k, k < m ∧ X k ≤ x ∧ x < X (k + 1) := by
      rcases Val.where_ x ha with h1 | h1 | h1
      · have := (Val.val_first (Y := Y) ha h1).2; omega
      · have := (Val.val_last (Y := Y) h1).2; omega
      · exact h1
    have hyi : ∃ k, k < m ∧ X k ≤ y ∧ y < X (k + 1) := by
      rcases Val.where_ y ha with h1 | h1 | h1
      · have := (Val.val_first (Y := Y) ha h1).2; omega
      · have := (Val.val_last (Y := Y) h1).2; omega
      · exact h1
    obtain ⟨k, hk, hk1, hk2⟩ := hxi
    obtain ⟨j, hj, hj1, hj2⟩ := hyi
    have hkj : k = j := by
      rcases Nat.lt_trichotomy k j with h1 | h1 | h1
      · have a := up_le_of ha hk hk1 hk2
        have b := Val.val_mono ha hj1
        rw [(Val.val_knot ha (by omega : j ≤ m)).1] at b
        have c := (ha.mono (by omega : j ≤ m) (by omega : k + 1 ≤ j)).2
        omega
      · exact h1
      · have := (ha.mono (by omega : k ≤ m) (by omega : j + 1 ≤ k)).1
        omega
    subst hkj
    have ed : d = d' := by rw [rd (by omega), rd' (by omega), Val.dn_mid ha hk hk1 hk2, Val.dn_mid ha hk hj1 hj2]
    subst ed
    refine Int.mul_le_mul_of_nonneg_right ?_ (by omega)
    rw [hv]
    have ek := ha k hk
    have q1 : Val.val X Y m x * (X (k + 1) - X k) + Val.rst X Y m x = Y k * (X (k + 1) - X k) + (Y (k + 1) - Y k) * (x - X k) := by
      rw [(Val.val_mid ha hk hk1 hk2).1, (Val.val_mid ha hk hk1 hk2).2]
      unfold Val.fl Val.rs
      rw [Int.add_mul, Int.add_assoc, Int.mul_comm (_ / _), Int.mul_ediv_add_emod]
    have q2 : Val.val X Y m y * (X (k + 1) - X k) + Val.rst X Y m y = Y k * (X (k + 1) - X k) + (Y (k + 1) - Y k) * (y - X k) := by
      rw [(Val.val_mid ha hk hj1 hj2).1, (Val.val_mid ha hk hj1 hj2).2]
      unfold Val.fl Val.rs
      rw [Int.add_mul, Int.add_assoc, Int.mul_comm (_ / _), Int.mul_ediv_add_emod]
    have q3 : (Y (k + 1) - Y k) * (x - X k) ≤ (Y (k + 1) - Y k) * (y - X k) := Int.mul_le_mul_of_nonneg_left (by omega) (by omega)
    rw [hv] at q2
    omega

/-- What At answers, if it answers: the fraction in lowest terms. -/
theorem atIs_kind {q : Int} {r d : Nat} {a b e : Int} (h : AtIs q r d a b e) : e = 0 ∨ e = 5 := by
  rcases h with ⟨_, _, _, he⟩ | ⟨_, _, _, h⟩
  · exact .inr he
  · rcases h with ⟨_, _, _, he⟩ | ⟨_, _, _, _, he⟩
    · exact .inr he
    · exact .inl he
theorem atIs_ok {q : Int} {r d : Nat} {a b : Int} (hd : 0 < d) (hrd : r < d) (h : AtIs q r d a b 0) :
    ∃ K B : Nat, 0 < K ∧ b = (B : Int) ∧ 0 < B ∧ B ≤ 1073741824 ∧ -1073741824 ≤ a ∧ a ≤ 1073741824 ∧ Nat.gcd a.natAbs B = 1 ∧ a * K = q * d + r ∧ B * K = d := by
  rcases h with ⟨_, _, _, he⟩ | ⟨_, _, _, h⟩
  · exact absurd he (by decide)
  · have hg : 0 < Nat.gcd d r := Nat.gcd_pos_of_pos_left _ hd
    have g1 := Nat.div_mul_cancel (Nat.gcd_dvd_left d r)
    have g2 := Nat.div_mul_cancel (Nat.gcd_dvd_right d r)
    generalize Nat.gcd d r = g at *
    generalize d / g = D at *
    generalize r / g = R at *
    have hD : 0 < D := by
      rcases Nat.eq_zero_or_pos D with h0 | h0
      · rw [h0, Nat.zero_mul] at g1; omega
      · exact h0
    rcases h with ⟨_, _, _, he⟩ | ⟨h1, h2, ha, hb, _⟩
    · exact absurd he (by decide)
    · obtain ⟨N, hN⟩ : ∃ N, N = (q * (D : Int) + (R : Int)).natAbs := ⟨_, rfl⟩
      rw [← hN] at h1 h2 ha hb
      have hh : 0 < Nat.gcd N D := Nat.gcd_pos_of_pos_right _ hD
      have k1 := Nat.div_mul_cancel (Nat.gcd_dvd_left N D)
      have k2 := Nat.div_mul_cancel (Nat.gcd_dvd_right N D)
      have k3 : Nat.gcd (N / Nat.gcd N D) (D / Nat.gcd N D) = 1 := by rw [Nat.gcd_div (Nat.gcd_dvd_left N D) (Nat.gcd_dvd_right N D), Nat.div_self hh]
      generalize Nat.gcd N D = t at *
      generalize N / t = n at *
      generalize D / t = B at *
      have hB : 0 < B := by
        rcases Nat.eq_zero_or_pos B with h0 | h0
        · rw [h0, Nat.zero_mul] at k2; omega
        · exact h0
      have hab : a.natAbs = n := by rw [ha]; split <;> omega
      have hat : a * (t : Int) = q * (D : Int) + (R : Int) := by
        have e : (n : Int) * (t : Int) = (N : Int) := by rw [← Int.natCast_mul, k1]
        rw [ha]
        split
        · rw [Int.neg_mul, e]; omega
        · rw [e]; omega
      refine ⟨t * g, B, Nat.mul_pos hh hg, hb, hB, h2, by omega, by omega, by rw [hab]; exact k3, ?_, by rw [← Nat.mul_assoc, k2, g1]⟩
      have e1 : ((t * g : Nat) : Int) = (t : Int) * (g : Int) := Int.natCast_mul _ _
      have e2 : (d : Int) = (D : Int) * (g : Int) := by rw [← g1, Int.natCast_mul]
      have e3 : (r : Int) = (R : Int) * (g : Int) := by rw [← g2, Int.natCast_mul]
      rw [e1, ← Int.mul_assoc, hat, e2, e3, Int.add_mul, Int.mul_assoc]
theorem cross_le {a1 a2 s1 s2 : Int} {B1 B2 K1 K2 d1 d2 : Nat} (h1 : 0 < K1) (h2 : 0 < K2) (e1 : a1 * K1 = s1) (e2 : a2 * K2 = s2) (f1 : B1 * K1 = d1) (f2 : B2 * K2 = d2) (h : s1 * d2 ≤ s2 * d1) : a1 * B2 ≤ a2 * B1 := by
  apply Classical.byContradiction
  intro hn
  have hlt : a2 * (B1 : Int) < a1 * (B2 : Int) := by omega
  have hpos : (0 : Int) < (K1 : Int) * (K2 : Int) := Int.mul_pos (by omega) (by omega)
  have := Int.mul_lt_mul_of_pos_right hlt hpos
  rw [← e1, ← e2, ← f1, ← f2, Int.natCast_mul, Int.natCast_mul] at h
  have l : a1 * (B2 : Int) * ((K1 : Int) * (K2 : Int)) = a1 * (K1 : Int) * ((B2 : Int) * (K2 : Int)) := by
    simp only [Int.mul_assoc, Int.mul_left_comm]
  have r : a2 * (B1 : Int) * ((K1 : Int) * (K2 : Int)) = a2 * (K2 : Int) * ((B1 : Int) * (K1 : Int)) := by
    simp only [Int.mul_assoc, Int.mul_left_comm, Int.mul_comm (K2 : Int)]
  omega
theorem frac_floor {a q : Int} {r d B K : Nat} (hK : 0 < K) (hB : 0 < B) (h : a * K = q * d + r) (hd : B * K = d) (hrd : r < d) : a / (B : Int) = q := by
  have e : (a - q * B) * K = r := by
    rw [Int.sub_mul, h, ← hd, Int.natCast_mul, Int.mul_assoc]; omega
  have h0 : 0 ≤ a - q * B := by
    apply Classical.byContradiction
    intro hn
    have := Int.mul_lt_mul_of_pos_right (show a - q * (B : Int) < 0 by omega) (show (0 : Int) < K by omega)
    rw [Int.zero_mul] at this
    omega
  have h1 : a - q * B < B := by
    apply Classical.byContradiction
    intro hn
    have := Int.mul_le_mul_of_nonneg_right (show (B : Int) ≤ a - q * (B : Int) by omega) (show (0 : Int) ≤ K by omega)
    rw [e, ← Int.natCast_mul, hd] at this
    omega
  rw [show a = (a - q * B) + q * B by omega, Int.add_mul_ediv_right _ _ (by omega), Int.ediv_eq_zero_of_lt h0 h1, Int.zero_add]
end Go.Proofs.YtpeelnjkppdkbaaGreat

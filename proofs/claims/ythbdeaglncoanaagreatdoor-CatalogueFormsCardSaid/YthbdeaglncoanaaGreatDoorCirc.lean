/- Plain mathematics of a circle by parts: depths, widths, areas, perimeters, conveyances, and their bounds. No program stands here. -/
import Derived.Test.YthbdeaglncoanaaGreatDoorRoot2
namespace Go.Proofs.YthbdeaglncoanaaGreatDoor.Circ

def cd (S P i : Nat) : Nat := S * i / P
def cw (S P i : Nat) : Nat := Num.isq (4 * cd S P i * (S - cd S P i))
def cs (S P i : Nat) : Nat := cd S P (i + 1) - cd S P i
def ch (S P i : Nat) : Nat := ((cw S P (i + 1) - cw S P i) + (cw S P i - cw S P (i + 1))) / 2
def side (S P i : Nat) : Nat := csq (cs S P i * cs S P i + ch S P i * ch S P i)
def ca (S P : Nat) : Nat → Nat
  | 0 => 0
  | i + 1 => ca S P i + (cw S P i + cw S P (i + 1)) * cs S P i / 2
def cp (S P : Nat) : Nat → Nat
  | 0 => 0
  | i + 1 => cp S P i + 2 * side S P i
def ck (S P : Nat) : Nat → Nat
  | 0 => 0
  | i + 1 => max (ck S P i) (Num.isq (ca S P (i + 1) * ca S P (i + 1) * (5 * ca S P (i + 1)) / (2 * cp S P (i + 1))))

set_option linter.unusedVariables false
theorem cd_le {S P : Nat} (h2 : 2 ≤ P) (hPS : P ≤ S) {i : Nat} (hi : i ≤ P) : cd S P i ≤ S := by
  unfold cd
  apply Nat.div_le_of_le_mul
  rw [Nat.mul_comm]
  exact Nat.mul_le_mul_right S hi
theorem cd_step {S P : Nat} (h2 : 2 ≤ P) (hPS : P ≤ S) (i : Nat) : cd S P i + 1 ≤ cd S P (i + 1) := by
  unfold cd
  rw [Nat.mul_succ, Nat.le_div_iff_mul_le (by omega), Nat.add_mul]
  have := Nat.div_mul_le_self (S * i) P
  omega
theorem four_mul_le (d e : Nat) : 4 * d * e ≤ (d + e) * (d + e) := by
  rcases Nat.le_total d e with h | h
  · obtain ⟨t, rfl⟩ := Nat.le.dest h
    have e1 : (d + (d + t)) * (d + (d + t)) = 4 * d * (d + t) + t * t := by
      simp only [Nat.add_mul, Nat.mul_add]
      have : 4 * d * d = d * d + d * d + d * d + d * d := by rw [Nat.mul_assoc]; omega
      have : 4 * d * t = d * t + d * t + d * t + d * t := by rw [Nat.mul_assoc]; omega
      have : t * d = d * t := Nat.mul_comm _ _
      omega
    omega
  · obtain ⟨t, rfl⟩ := Nat.le.dest h
    have e1 : (e + t + e) * (e + t + e) = 4 * (e + t) * e + t * t := by
      simp only [Nat.add_mul, Nat.mul_add]
      have : 4 * e * e = e * e + e * e + e * e + e * e := by rw [Nat.mul_assoc]; omega
      have : 4 * t * e = t * e + t * e + t * e + t * e := by rw [Nat.mul_assoc]; omega
      have : e * t = t * e := Nat.mul_comm _ _
      omega
    omega
theorem cw_le {S P : Nat} (h2 : 2 ≤ P) (hPS : P ≤ S) {i : Nat} (hi : i ≤ P) : cw S P i ≤ S := by
  have h := cd_le h2 hPS hi
  have h4 := four_mul_le (cd S P i) (S - cd S P i)
  rw [Nat.add_sub_cancel' h] at h4
  have : Num.isq (4 * cd S P i * (S - cd S P i)) < S + 1 := Num.isq_lt (by
    have : (S + 1) * (S + 1) = S * S + 2 * S + 1 := by rw [Nat.add_mul, Nat.mul_add]; omega
    omega)
  unfold cw; omega
theorem ca_le {S P : Nat} (h2 : 2 ≤ P) (hPS : P ≤ S) {i : Nat} (hi : i ≤ P) : ca S P i ≤ S * cd S P i := by
  induction i with
  | zero => simp [ca]
  | succ i ih =>
    have h1 := ih (by omega)
    have h3 := cw_le h2 hPS (by omega : i ≤ P)
    have h4 := cw_le h2 hPS hi
    have h5 := cd_step h2 hPS i
    have h6 : (cw S P i + cw S P (i + 1)) * cs S P i ≤ (2 * S) * cs S P i := Nat.mul_le_mul_right _ (by omega)
    have h7 : S * cd S P (i + 1) = S * cd S P i + S * cs S P i := by rw [← Nat.mul_add]; congr 1; unfold cs; omega
    rw [Nat.mul_assoc] at h6
    unfold ca
    omega
theorem csq_ge (s h : Nat) : s ≤ csq (s * s + h * h) := by
  have : s ≤ Num.isq (s * s + h * h) := Num.le_isq (Nat.le_add_right _ _)
  unfold csq
  split <;> omega
theorem csq_le (s h : Nat) : csq (s * s + h * h) ≤ s + h + 1 := by
  have : Num.isq (s * s + h * h) < s + h + 1 := Num.isq_lt (by
    have : (s + h + 1) * (s + h + 1) = s * s + h * h + 2 * (s * h) + 2 * s + 2 * h + 1 := by
      simp only [Nat.add_mul, Nat.mul_add]
      have : h * s = s * h := Nat.mul_comm _ _
      omega
    omega)
  unfold csq
  split <;> omega
theorem ch_le {S P : Nat} (h2 : 2 ≤ P) (hPS : P ≤ S) {i : Nat} (hi : i + 1 ≤ P) : ch S P i ≤ S := by
  have h3 := cw_le h2 hPS (by omega : i ≤ P)
  have h4 := cw_le h2 hPS hi
  unfold ch; omega
theorem cs_le {S P : Nat} (h2 : 2 ≤ P) (hPS : P ≤ S) {i : Nat} (hi : i + 1 ≤ P) : cs S P i ≤ S := by
  have h3 := cd_le h2 hPS hi
  unfold cs; omega
theorem side_le {S P : Nat} (h2 : 2 ≤ P) (hPS : P ≤ S) {i : Nat} (hi : i + 1 ≤ P) : cs S P i ≤ side S P i ∧ side S P i ≤ 2 * S + 1 := by
  have h3 := cs_le h2 hPS hi
  have h4 := ch_le h2 hPS hi
  have h5 := csq_le (cs S P i) (ch S P i)
  exact ⟨csq_ge _ _, by unfold side; omega⟩
theorem cp_le {S P : Nat} (h2 : 2 ≤ P) (hPS : P ≤ S) {i : Nat} (hi : i ≤ P) : 2 * cd S P i ≤ cp S P i ∧ cp S P i ≤ i * (4 * S + 2) := by
  induction i with
  | zero => simp [cp, cd]
  | succ i ih =>
    have h1 := ih (by omega)
    have h3 := side_le h2 hPS hi
    have h5 := cd_step h2 hPS i
    have h6 : cs S P i = cd S P (i + 1) - cd S P i := rfl
    have h7 : (i + 1) * (4 * S + 2) = i * (4 * S + 2) + (4 * S + 2) := Nat.succ_mul _ _
    unfold cp
    omega
theorem ca_bound {S P : Nat} (h2 : 2 ≤ P) (hPS : P ≤ S) (hS : S ≤ 32768) {i : Nat} (hi : i ≤ P) : ca S P i ≤ 1073741824 ∧ ca S P i ≤ 32768 * cd S P i := by
  have h1 := ca_le h2 hPS hi
  have h3 := cd_le h2 hPS hi
  have h4 : S * cd S P i ≤ 32768 * 32768 := Nat.mul_le_mul hS (by omega)
  have h5 : S * cd S P i ≤ 32768 * cd S P i := Nat.mul_le_mul_right _ hS
  omega
theorem cubes {S P : Nat} (h2 : 2 ≤ P) (hPS : P ≤ S) (hS : S ≤ 32768) {i : Nat} (hi : i ≤ P) : ca S P i * ca S P i ≤ 1152921504606846976 ∧ ca S P i * ca S P i * (5 * ca S P i) ≤ 1152921504606846976 * (5 * (32768 * cd S P i)) ∧ ca S P i * ca S P i * (5 * ca S P i) ≤ 1152921504606846976 * 5368709120 := by
  obtain ⟨h1, h3⟩ := ca_bound h2 hPS hS hi
  have h4 : ca S P i * ca S P i ≤ 1073741824 * 1073741824 := Nat.mul_le_mul h1 h1
  exact ⟨h4, Nat.mul_le_mul h4 (by omega), Nat.mul_le_mul h4 (by omega)⟩
theorem ck_new {S P : Nat} (h2 : 2 ≤ P) (hPS : P ≤ S) (hS : S ≤ 32768) {i : Nat} (hi : i + 1 ≤ P) : Num.isq (ca S P (i + 1) * ca S P (i + 1) * (5 * ca S P (i + 1)) / (2 * cp S P (i + 1))) < 274877906944 := by
  obtain ⟨_, h1, _⟩ := cubes h2 hPS hS hi
  have h3 := (cp_le h2 hPS hi).1
  have h4 := cd_step h2 hPS i
  apply Num.isq_lt
  rw [Nat.div_lt_iff_lt_mul (by omega)]
  omega
theorem ck_bound {S P : Nat} (h2 : 2 ≤ P) (hPS : P ≤ S) (hS : S ≤ 32768) {i : Nat} (hi : i ≤ P) : ck S P i < 274877906944 := by
  induction i with
  | zero => simp [ck]
  | succ i ih =>
    have := ih (by omega)
    have := ck_new h2 hPS hS hi
    unfold ck
    omega
end Go.Proofs.YthbdeaglncoanaaGreatDoor.Circ

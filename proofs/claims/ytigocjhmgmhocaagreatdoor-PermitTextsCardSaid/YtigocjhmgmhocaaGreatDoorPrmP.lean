/- Plain facts of permits: right events, years, errors, findings. -/
import Derived.Test.YtigocjhmgmhocaaGreatDoorCalP
namespace Go.Proofs.YtigocjhmgmhocaaGreatDoor
open Go.RowKit
set_option linter.unusedVariables false
set_option linter.unusedSimpArgs false

noncomputable def yearOf (t : Int) : Int := (time_ex t).choose
noncomputable def errOf (t : Int) : Int := (time_ex t).choose_spec.choose
theorem time_is (t : Int) : TimeIs t (yearOf t) (errOf t) := (time_ex t).choose_spec.choose_spec
theorem time_eq {t y e : Int} (h : TimeIs t y e) : yearOf t = y ∧ errOf t = e := (time_is t).uniq h

/-- Events. -/
structure Evs where
  F : Nat → Int
  To : Nat → Int
  Tot : Nat → Int
  Pk : Nat → Int
def lastTo (E : Evs) : Nat → Int
  | 0 => 0
  | i + 1 => E.To i
/-- One event is right, behind an end. -/
def evR (a f t tot pk : Int) : Prop := a ≤ f ∧ f < t ∧ t ≤ 10000 ∧ 1 ≤ pk ∧ pk ≤ 1125899906842624 ∧ pk ≤ tot ∧ tot ≤ 1152921504606846976 ∧ tot ≤ pk * (t - f)
instance (a f t tot pk : Int) : Decidable (evR a f t tot pk) := by unfold evR; exact inferInstance
def evRight (E : Evs) (i : Nat) : Prop := evR (lastTo E i) (E.F i) (E.To i) (E.Tot i) (E.Pk i)
def rightP (E : Evs) (n : Nat) : Prop := n ≤ 10000 ∧ ∀ i, i < n → evRight E i
theorem rightP.to_nn {E : Evs} {n : Nat} (h : rightP E n) : ∀ i, i ≤ n → 0 ≤ lastTo E i := by
  intro i hi
  induction i with
  | zero => exact Int.le_refl _
  | succ k ih =>
    have h1 := ih (by omega)
    have h2 := h.2 k (by omega)
    unfold evRight evR at h2
    show 0 ≤ E.To k
    omega
theorem rightP.bounds {E : Evs} {n i : Nat} (h : rightP E n) (hi : i < n) : 0 ≤ E.F i ∧ E.F i < E.To i ∧ E.To i ≤ 10000 ∧ 1 ≤ E.Tot i ∧ E.Tot i ≤ 1152921504606846976 := by
  have h1 := h.to_nn i (by omega)
  have h2 := h.2 i hi
  unfold evRight evR at h2
  omega
theorem rightP.asc {E : Evs} {n : Nat} (h : rightP E n) : ∀ j i, i ≤ j → j < n → E.F i ≤ E.F j
  | 0, i, hi, hj => by obtain rfl : i = 0 := by omega
                       exact Int.le_refl _
  | j + 1, i, hi, hj => by
    rcases Nat.lt_or_ge i (j + 1) with k | k
    · have h1 := h.asc j i (by omega) (by omega)
      have h2 := h.2 j (by omega)
      have h3 := h.2 (j + 1) hj
      unfold evRight evR lastTo at h2 h3
      simp only at h3
      omega
    · obtain rfl : i = j + 1 := by omega
      exact Int.le_refl _
/-- The package's test of an event: the quotient by the peak. -/
theorem peak_div {tot pk d : Int} (h1 : 1 ≤ pk) (h2 : 0 ≤ tot) (q r : Int) (hq : tot / pk = q) (hr : tot % pk = r) : (d < q ∨ (q = d ∧ 0 < r)) ↔ ¬ tot ≤ pk * d := by
  have e := Int.mul_ediv_add_emod tot pk
  have r0 := Int.emod_nonneg tot (show pk ≠ 0 by omega)
  have r1 := Int.emod_lt_of_pos tot (show 0 < pk by omega)
  rw [hq, hr] at e
  rw [hr] at r0 r1
  constructor
  · rintro (h | ⟨h, hr0⟩)
    · have h3 : pk * (d + 1) ≤ pk * q := Int.mul_le_mul_of_nonneg_left (by omega) (by omega)
      rw [Int.mul_add] at h3
      omega
    · subst h; omega
  · intro h
    rcases Int.lt_or_le d q with k | k
    · exact .inl k
    · rcases Int.lt_or_eq_of_le k with k | k
      · exfalso
        have h3 : pk * (q + 1) ≤ pk * d := Int.mul_le_mul_of_nonneg_left (by omega) (by omega)
        rw [Int.mul_add] at h3
        omega
      · subst k; exact .inr ⟨rfl, by omega⟩
/-- The reference's test: the quotient by the steps. -/
theorem steps_div {tot pk d q : Int} (h1 : 1 ≤ d) (h2 : 1 ≤ tot) (hq : (tot - 1) / d = q) : pk ≤ q ↔ ¬ tot ≤ pk * d := by
  rw [← hq, Int.le_ediv_iff_mul_le (by omega)]
  omega

/-- A permit. -/
structure Pm where
  nm : ByteArray
  nd : ByteArray
  ev : Int
  vol : Int
  tot : Int
def limR (ev vol tot : Int) : Prop := 0 ≤ ev ∧ ev ≤ 10000 ∧ 0 ≤ vol ∧ vol ≤ 576460752303423488 ∧ 0 ≤ tot ∧ tot ≤ 576460752303423488
instance (ev vol tot : Int) : Decidable (limR ev vol tot) := by unfold limR; exact inferInstance

/-- The first error. -/
def fe (e : Nat → Int) : Nat → Int
  | 0 => 0
  | n + 1 => if fe e n = 0 then e n else fe e n
theorem fe_zero {e : Nat → Int} : ∀ {n}, fe e n = 0 ↔ ∀ i, i < n → e i = 0
  | 0 => by simp [fe]
  | n + 1 => by
    unfold fe
    constructor
    · intro h i hi
      split at h
      · rename_i h0
        rcases Nat.lt_or_ge i n with k | k
        · exact fe_zero.1 h0 i k
        · obtain rfl : i = n := by omega
          exact h
      · contradiction
    · intro h
      rw [if_pos (fe_zero.2 fun i hi => h i (by omega))]
      exact h n (by omega)
theorem fe_at {e : Nat → Int} {i : Nat} (h0 : ∀ j, j < i → e j = 0) (hi : e i ≠ 0) : ∀ {n}, i < n → fe e n = e i
  | 0, h => by omega
  | n + 1, h => by
    unfold fe
    rcases Nat.lt_or_ge i n with k | k
    · rw [if_neg (by rw [fe_at h0 hi k]; exact hi), fe_at h0 hi k]
    · obtain rfl : i = n := by omega
      rw [if_pos (fe_zero.2 h0)]
def stepP (from_ sec : Int) : Prop := InstP from_ ∧ 1 ≤ sec ∧ sec ≤ 86400
noncomputable def yrs (E : Evs) (from_ sec : Int) (i : Nat) : Int := yearOf (from_ + sec * E.F i)
noncomputable def ers (E : Evs) (from_ sec : Int) (i : Nat) : Int := errOf (from_ + sec * E.F i)
open Classical in
/-- The error of a function with events, from, seconds: ok says that the permit is valid. -/
noncomputable def yErr (ok : Prop) (E : Evs) (n : Nat) (from_ sec : Int) : Int :=
  if ok ∧ rightP E n then (if stepP from_ sec then fe (ers E from_ sec) n else 2) else 1
theorem yErr_bad {ok : Prop} {E : Evs} {n : Nat} {from_ sec : Int} (h : ¬ (ok ∧ rightP E n)) : yErr ok E n from_ sec = 1 := by unfold yErr; rw [if_neg h]
theorem yErr_range {ok : Prop} {E : Evs} {n : Nat} {from_ sec : Int} (h : ok ∧ rightP E n) (h2 : ¬ stepP from_ sec) : yErr ok E n from_ sec = 2 := by unfold yErr; rw [if_pos h, if_neg h2]
theorem yErr_fe {ok : Prop} {E : Evs} {n : Nat} {from_ sec : Int} (h : ok ∧ rightP E n) (h2 : stepP from_ sec) : yErr ok E n from_ sec = fe (ers E from_ sec) n := by unfold yErr; rw [if_pos h, if_pos h2]
theorem yErr_zero {ok : Prop} {E : Evs} {n : Nat} {from_ sec : Int} (h : yErr ok E n from_ sec = 0) : ok ∧ rightP E n ∧ stepP from_ sec ∧ ∀ i, i < n → TimeIs (from_ + sec * E.F i) (yrs E from_ sec i) 0 := by
  by_cases h1 : ok ∧ rightP E n
  · by_cases h2 : stepP from_ sec
    · rw [yErr_fe h1 h2] at h
      refine ⟨h1.1, h1.2, h2, fun i hi => ?_⟩
      have h3 : errOf (from_ + sec * E.F i) = 0 := fe_zero.1 h i hi
      have h4 := time_is (from_ + sec * E.F i)
      rw [h3] at h4
      exact h4
    · rw [yErr_range h1 h2] at h; omega
  · rw [yErr_bad h1] at h; omega
theorem t_bound {from_ sec f : Int} (h : stepP from_ sec) (h0 : 0 ≤ f) (h1 : f ≤ 10000) : 0 ≤ sec * f ∧ sec * f ≤ 864000000 := by
  unfold stepP at h
  have a : sec * f ≤ 86400 * f := Int.mul_le_mul_of_nonneg_right h.2.2 h0
  have b : 0 ≤ sec * f := Int.mul_nonneg (by omega) h0
  omega
/-- Years ascend. -/
theorem yrs_asc {ok : Prop} {E : Evs} {n : Nat} {from_ sec : Int} (h : yErr ok E n from_ sec = 0) : Asc (yrs E from_ sec) n := by
  obtain ⟨h1, h2, h3, h4⟩ := yErr_zero h
  intro i j hij hj
  have a := h2.asc j i hij hj
  have b : sec * E.F i ≤ sec * E.F j := Int.mul_le_mul_of_nonneg_left a (by unfold stepP at h3; omega)
  exact (h4 i (by omega)).mono (h4 j hj) (by omega)

/-- A sum, cut. -/
def cutS (x : Int) : Int := if x ≤ 576460752303423489 then x else 576460752303423489
theorem cut_add {a t : Int} (h1 : 0 ≤ a) (h2 : 0 ≤ t) : cutS (cutS a + cutS t) = cutS (a + t) := by
  unfold cutS
  split <;> split <;> split <;> (try split) <;> omega
theorem cut_gt {x m : Int} (h : m ≤ 576460752303423488) : m < cutS x ↔ m < x := by
  unfold cutS
  split <;> omega
theorem cut_zero : cutS 0 = 0 := by decide
theorem cut_le (x : Int) : cutS x ≤ 576460752303423489 := by unfold cutS; split <;> omega
theorem cut_nn {x : Int} (h : 0 ≤ x) : 0 ≤ cutS x := by unfold cutS; split <;> omega

/-- Two ascending lists with the same members are the same. -/
theorem asc_ext : ∀ {L M : List Int}, L.Pairwise (· < ·) → M.Pairwise (· < ·) → (∀ x, x ∈ L ↔ x ∈ M) → L = M
  | [], [], _, _, _ => rfl
  | [], b :: M, _, _, h => by have := (h b).2 (by simp); cases this
  | a :: L, [], _, _, h => by have := (h a).1 (by simp); cases this
  | a :: L, b :: M, hl, hm, h => by
    have hl' := List.pairwise_cons.1 hl
    have hm' := List.pairwise_cons.1 hm
    have hab : a = b := by
      have h1 := (h a).1 (by simp)
      have h2 := (h b).2 (by simp)
      rcases List.mem_cons.1 h1 with e | e
      · exact e
      · rcases List.mem_cons.1 h2 with e2 | e2
        · exact e2.symm
        · have := hm'.1 a e; have := hl'.1 b e2; omega
    subst hab
    rw [asc_ext hl'.2 hm'.2 fun x => ?_]
    constructor
    · intro hx
      have := hl'.1 x hx
      rcases List.mem_cons.1 ((h x).1 (List.mem_cons_of_mem _ hx)) with e | e
      · omega
      · exact e
    · intro hx
      have := hm'.1 x hx
      rcases List.mem_cons.1 ((h x).2 (List.mem_cons_of_mem _ hx)) with e | e
      · omega
      · exact e
theorem asc_nodup {L : List Int} (h : L.Pairwise (· < ·)) : L.Nodup := h.imp fun {a b} hab => by omega
/-- The sorted keys of a map. -/
theorem sorted_is {L S : List Int} (hL : L.Pairwise (· < ·)) (hp : S.Perm L) : S.mergeSort (fun x y => decide (x ≤ y)) = L := by
  have hm := List.mergeSort_perm S (fun x y => decide (x ≤ y))
  have hs : (S.mergeSort (fun x y => decide (x ≤ y))).Pairwise (fun x y => decide (x ≤ y) = true) := List.pairwise_mergeSort (by intro a b c; simp only [decide_eq_true_eq]; omega) (by intro a b; simp only [Bool.or_eq_true, decide_eq_true_eq]; omega) S
  have hnd : (S.mergeSort (fun x y => decide (x ≤ y))).Nodup := (hm.trans hp).nodup_iff.2 (asc_nodup hL)
  refine asc_ext ?_ hL fun x => (hm.trans hp).mem_iff
  have := hs.and hnd
  exact this.imp fun {a b} hab => by
    have h1 := of_decide_eq_true hab.1
    have h2 := hab.2
    omega
end Go.Proofs.YtigocjhmgmhocaaGreatDoor

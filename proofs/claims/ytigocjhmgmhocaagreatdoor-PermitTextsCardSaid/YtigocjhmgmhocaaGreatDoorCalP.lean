/- Plain facts of the calendar, of years, of accounts. -/
import Derived.Lib.Hide
import Derived.Lib.ItoaNum
namespace Go.Proofs.YtigocjhmgmhocaaGreatDoor
open Go.RowKit
set_option linter.unusedVariables false
set_option linter.unusedSimpArgs false

/-- The number of the first day of a year. -/
def yb (y : Int) : Int := 365 * (y - 1) + (y - 1) / 4 - (y - 1) / 100 + (y - 1) / 400 - 730119
def leapP (y : Int) : Prop := (y % 4 = 0 ∧ y % 100 ≠ 0) ∨ y % 400 = 0
instance (y : Int) : Decidable (leapP y) := by unfold leapP; exact inferInstance
theorem yb_step (y : Int) : yb (y + 1) = yb y + 365 + (if leapP y then 1 else 0) := by
  by_cases h : leapP y
  · rw [if_pos h]; unfold leapP at h; unfold yb; omega
  · rw [if_neg h]; unfold leapP at h; unfold yb; omega
theorem yb_lt {y z : Int} (h : y < z) : yb y + 365 ≤ yb z := by unfold yb; omega
theorem yb_le {y z : Int} (h : y ≤ z) : yb y ≤ yb z := by
  rcases Int.lt_or_eq_of_le h with h | rfl
  · have := yb_lt h; omega
  · exact Int.le_refl _
/-- A day lies in a year. -/
structure YearIs (d y : Int) : Prop where
  lo : 1 ≤ y
  hi : y ≤ 9999
  a : yb y ≤ d
  b : d < yb (y + 1)
theorem YearIs.uniq {d y z : Int} (h : YearIs d y) (g : YearIs d z) : y = z := by
  rcases Int.lt_trichotomy y z with k | k | k
  · have := yb_le (show y + 1 ≤ z by omega); have := h.b; have := g.a; omega
  · exact k
  · have := yb_le (show z + 1 ≤ y by omega); have := g.b; have := h.a; omega
theorem YearIs.mono {d e y z : Int} (h : YearIs d y) (g : YearIs e z) (hd : d ≤ e) : y ≤ z := by
  rcases Int.lt_or_le z y with k | k
  · have := yb_le (show z + 1 ≤ y by omega); have := g.b; have := h.a; omega
  · exact k
theorem year_key (d : Int) (h1 : yb 1 ≤ d) : ∀ k : Nat, k ≤ 9999 → d < yb ((k : Int) + 1) → 1 ≤ k → ∃ y, YearIs d y := by
  intro k
  induction k with
  | zero => intro _ _ h; omega
  | succ k ih =>
    intro hk hd _
    have e : ((k + 1 : Nat) : Int) = (k : Int) + 1 := by omega
    rw [e] at hd
    by_cases h : d < yb ((k : Int) + 1)
    · rcases Nat.eq_zero_or_pos k with h0 | h0
      · subst h0
        exact absurd h (by simpa using h1)
      · exact ih (by omega) h h0
    · exact ⟨(k : Int) + 1, ⟨by omega, by omega, by omega, hd⟩⟩
theorem year_ex (d : Int) (h1 : yb 1 ≤ d) (h2 : d < yb 10000) : ∃ y, YearIs d y := by
  obtain ⟨N, hN⟩ : ∃ N : Nat, N = 9999 := ⟨_, rfl⟩
  refine year_key d h1 N (by omega) ?_ (by omega)
  have e : (N : Int) + 1 = 10000 := by omega
  rw [e]; exact h2
theorem yb_1 : yb 1 = -730119 := by decide
theorem yb_10000 : yb 10000 = 2921940 := by decide
def InstP (t : Int) : Prop := -68719476736 ≤ t ∧ t ≤ 68719476736
instance (t : Int) : Decidable (InstP t) := by unfold InstP; exact inferInstance
/-- What the year of an instant is: the year and the error. -/
inductive TimeIs (t : Int) : Int → Int → Prop
  | range (h : ¬ InstP t) : TimeIs t 0 2
  | time (h : InstP t) (h2 : t / 86400 < -730119) : TimeIs t 0 20
  | ok {y : Int} (h : InstP t) (h2 : YearIs (t / 86400) y) : TimeIs t y 0
theorem TimeIs.uniq {t y e y' e' : Int} (h : TimeIs t y e) (h' : TimeIs t y' e') : y = y' ∧ e = e' := by
  cases h <;> cases h'
  · exact ⟨rfl, rfl⟩
  · contradiction
  · contradiction
  · contradiction
  · exact ⟨rfl, rfl⟩
  · rename_i h h2 h3 h4
    have := h4.a; have := yb_le h4.lo; rw [yb_1] at this; omega
  · contradiction
  · rename_i h h2 h3 h4
    have := h2.a; have := yb_le h2.lo; rw [yb_1] at this; omega
  · rename_i h h2 h3 h4
    exact ⟨h2.uniq h4, rfl⟩
theorem time_ex (t : Int) : ∃ y e, TimeIs t y e := by
  by_cases h : InstP t
  · by_cases h2 : t / 86400 < -730119
    · exact ⟨_, _, .time h h2⟩
    · have h3 : t / 86400 < yb 10000 := by rw [yb_10000]; unfold InstP at h; omega
      obtain ⟨y, hy⟩ := year_ex (t / 86400) (by rw [yb_1]; omega) h3
      exact ⟨_, _, .ok h hy⟩
  · exact ⟨_, _, .range h⟩
theorem TimeIs.bound {t y e : Int} (h : TimeIs t y e) : 0 ≤ y ∧ y ≤ 9999 := by
  cases h
  · omega
  · omega
  · rename_i h h2
    have := h2.lo; have := h2.hi; omega
theorem TimeIs.lo {t y : Int} (h : TimeIs t y 0) : 1 ≤ y := by
  cases h
  rename_i h h2
  exact h2.lo
theorem TimeIs.mono {t u y z : Int} (h : TimeIs t y 0) (g : TimeIs u z 0) (ht : t ≤ u) : y ≤ z := by
  cases h; cases g
  rename_i a b c d
  exact b.mono d (Int.ediv_le_ediv (by omega) ht)

/-- How many of the first n years are y. -/
def cnt (Y : Nat → Int) (y : Int) : Nat → Nat
  | 0 => 0
  | n + 1 => cnt Y y n + (if Y n = y then 1 else 0)
/-- The sum of the totals of year y. -/
def sm (Y T : Nat → Int) (y : Int) : Nat → Int
  | 0 => 0
  | n + 1 => sm Y T y n + (if Y n = y then T n else 0)
theorem cnt_le (Y : Nat → Int) (y : Int) : ∀ n, cnt Y y n ≤ n
  | 0 => Nat.le_refl _
  | n + 1 => by have := cnt_le Y y n; unfold cnt; split <;> omega
theorem sm_nn {Y T : Nat → Int} {y : Int} : ∀ n, (∀ i, i < n → 0 ≤ T i) → 0 ≤ sm Y T y n
  | 0, _ => Int.le_refl _
  | n + 1, h => by have := sm_nn (Y := Y) (y := y) n (fun i hi => h i (by omega)); have := h n (by omega); unfold sm; split <;> omega
theorem cnt_zero {Y : Nat → Int} {y : Int} : ∀ n, (∀ i, i < n → Y i ≠ y) → cnt Y y n = 0
  | 0, _ => rfl
  | n + 1, h => by unfold cnt; rw [if_neg (h n (by omega)), cnt_zero n (fun i hi => h i (by omega))]
theorem sm_zero {Y T : Nat → Int} {y : Int} : ∀ n, (∀ i, i < n → Y i ≠ y) → sm Y T y n = 0
  | 0, _ => rfl
  | n + 1, h => by unfold sm; rw [if_neg (h n (by omega)), sm_zero n (fun i hi => h i (by omega))]; rfl
theorem cnt_mono {Y : Nat → Int} {y : Int} {m : Nat} : ∀ n, m ≤ n → cnt Y y m ≤ cnt Y y n
  | 0, h => by obtain rfl : m = 0 := by omega
               exact Nat.le_refl _
  | n + 1, h => by
    rcases Nat.lt_or_ge n m with k | k
    · obtain rfl : m = n + 1 := by omega
      exact Nat.le_refl _
    · have := cnt_mono (Y := Y) (y := y) n k
      show _ ≤ cnt Y y n + _
      omega
theorem sm_mono {Y T : Nat → Int} {y : Int} {m : Nat} : ∀ n, (∀ i, i < n → 0 ≤ T i) → m ≤ n → sm Y T y m ≤ sm Y T y n
  | 0, _, h => by obtain rfl : m = 0 := by omega
                  exact Int.le_refl _
  | n + 1, ht, h => by
    rcases Nat.lt_or_ge n m with k | k
    · obtain rfl : m = n + 1 := by omega
      exact Int.le_refl _
    · have := sm_mono (Y := Y) (T := T) (y := y) n (fun i hi => ht i (by omega)) k
      have := ht n (by omega)
      show _ ≤ sm Y T y n + _
      split <;> omega
/-- A year begins at place i. -/
def newAt (Y : Nat → Int) (i : Nat) : Prop := i = 0 ∨ Y i ≠ Y (i - 1)
instance (Y : Nat → Int) (i : Nat) : Decidable (newAt Y i) := by unfold newAt; exact inferInstance
/-- The years, each once, in the order in which they come. -/
def keysTo (Y : Nat → Int) : Nat → List Int
  | 0 => []
  | n + 1 => if newAt Y n then keysTo Y n ++ [Y n] else keysTo Y n
def Asc (Y : Nat → Int) (n : Nat) : Prop := ∀ i j, i ≤ j → j < n → Y i ≤ Y j
theorem Asc.le {Y : Nat → Int} {m n : Nat} (h : Asc Y n) (hm : m ≤ n) : Asc Y m := fun i j a b => h i j a (by omega)
theorem mem_keys {Y : Nat → Int} {y : Int} : ∀ {n}, y ∈ keysTo Y n ↔ ∃ i, i < n ∧ Y i = y
  | 0 => by simp [keysTo]
  | n + 1 => by
    unfold keysTo
    constructor
    · intro h
      split at h
      · rcases List.mem_append.1 h with h | h
        · obtain ⟨i, hi, e⟩ := mem_keys.1 h; exact ⟨i, by omega, e⟩
        · exact ⟨n, by omega, (List.mem_singleton.1 h).symm⟩
      · obtain ⟨i, hi, e⟩ := mem_keys.1 h; exact ⟨i, by omega, e⟩
    · rintro ⟨i, hi, e⟩
      by_cases hn : newAt Y n
      · rw [if_pos hn, List.mem_append]
        rcases Nat.lt_or_ge i n with k | k
        · exact .inl (mem_keys.2 ⟨i, k, e⟩)
        · obtain rfl : i = n := by omega
          exact .inr (by simp [e])
      · rw [if_neg hn]
        rcases Nat.lt_or_ge i n with k | k
        · exact mem_keys.2 ⟨i, k, e⟩
        · obtain rfl : i = n := by omega
          have hn0 : i ≠ 0 ∧ Y i = Y (i - 1) := by
            unfold newAt at hn
            exact ⟨fun h => hn (.inl h), Classical.byContradiction fun h => hn (.inr h)⟩
          exact mem_keys.2 ⟨i - 1, by omega, by rw [← hn0.2, e]⟩
theorem keys_lt {Y : Nat → Int} : ∀ {n}, Asc Y n → (keysTo Y n).Pairwise (· < ·)
  | 0, _ => List.Pairwise.nil
  | n + 1, h => by
    have ih := keys_lt (h.le (Nat.le_succ n))
    unfold keysTo
    split
    · rename_i hn
      rw [List.pairwise_append]
      refine ⟨ih, by simp, fun a ha b hb => ?_⟩
      obtain ⟨i, hi, rfl⟩ := mem_keys.1 ha
      rw [List.mem_singleton.1 hb]
      rcases hn with h0 | h0
      · omega
      · have h1 := h i (n - 1) (by omega) (by omega)
        have h2 := h (n - 1) n (by omega) (by omega)
        omega
    · exact ih
/-- The findings of a kind over a list of years. -/
def manyL (Y : Nat → Int) (N : Nat) (ev : Int) (K : List Int) : List Int := K.filter fun y => decide (ev < (cnt Y y N : Int))
def muchL (Y T : Nat → Int) (N : Nat) (tot : Int) (K : List Int) : List Int := K.filter fun y => decide (tot < sm Y T y N)
def greatL (T : Nat → Int) (vol : Int) : Nat → List Int
  | 0 => []
  | n + 1 => greatL T vol n ++ (if vol < T n then [(n : Int)] else [])
theorem mem_great {T : Nat → Int} {vol : Int} {v : Int} : ∀ {n}, v ∈ greatL T vol n ↔ ∃ i : Nat, i < n ∧ v = i ∧ vol < T i
  | 0 => by simp [greatL]
  | n + 1 => by
    unfold greatL
    rw [List.mem_append, mem_great]
    constructor
    · rintro (⟨i, hi, e, h⟩ | h)
      · exact ⟨i, by omega, e, h⟩
      · split at h
        · exact ⟨n, by omega, List.mem_singleton.1 h, by assumption⟩
        · cases h
    · rintro ⟨i, hi, e, h⟩
      rcases Nat.lt_or_ge i n with k | k
      · exact .inl ⟨i, k, e, h⟩
      · obtain rfl : i = n := by omega
        exact .inr (by rw [if_pos h]; simp [e])
/-- All findings: kinds and numbers. -/
def finds (Y T : Nat → Int) (N : Nat) (ev vol tot : Int) : List (Int × Int) :=
  (manyL Y N ev (keysTo Y N)).map (fun y => (1, y)) ++ (greatL T vol N).map (fun y => (2, y)) ++ (muchL Y T N tot (keysTo Y N)).map (fun y => (3, y))
end Go.Proofs.YtigocjhmgmhocaaGreatDoor

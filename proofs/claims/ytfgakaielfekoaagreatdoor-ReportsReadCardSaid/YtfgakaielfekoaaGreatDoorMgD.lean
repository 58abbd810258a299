/- Merged texts of these proofs: CalP, PrmP, Run, Ovf, Ovm, Ovs, Ovt. -/
import Derived.Lib.Hide
import Derived.Lib.ItoaNum
import Derived.Test.YtfgakaielfekoaaGreatDoorSto
import Derived.Test.YtfgakaielfekoaaGreatDoorBase
import Derived.Test.YtfgakaielfekoaaGreatDoorNetF
import Derived.BigRegion
import Derived.Test.YtfgakaielfekoaaGreatDoorStp
import Derived.Laws.MakeOwn
namespace Go.Proofs.YtfgakaielfekoaaGreatDoor
open Go.RowKit
set_option linter.unusedVariables false
set_option linter.unusedSimpArgs false

/-- The number of the first day of a year. -/
def yb (y : Int) : Int := 365 * (y - 1) + (y - 1) / 4 - (y - 1) / 100 + (y - 1) / 400 - 730119
def leapP (y : Int) : Prop := (y % 4 = 0 ∧ y % 100 ≠ 0) ∨ y % 400 = 0
instance (y : Int) : Decidable (leapP y) := by unfold leapP; exact inferInstance
theorem yb_lt {y z : Int} (h : y < z) : yb y + 365 ≤ yb z := by unfold yb; omega
theorem yb_le {y z : Int} (h : y ≤ z) : yb y ≤ yb z := by
  rcases Int.lt_or_eq_of_le h with h | rfl
  · have := yb_lt h; omega
  · exact Int.le_refl _
/-- A day lies in a year. -/
structure YearIs (d y : Int) : Prop where
  lo : 1 ≤ y
  hi : y ≤ 9999
  a : yb y ≤ d
  b : d < yb (y + 1)
theorem YearIs.uniq {d y z : Int} (h : YearIs d y) (g : YearIs d z) : y = z := by
  rcases Int.lt_trichotomy y z with k | k | k
  · have := yb_le (show y + 1 ≤ z by omega); have := h.b; have := g.a; omega
  · exact k
  · have := yb_le (show z + 1 ≤ y by omega); have := g.b; have := h.a; omega
theorem YearIs.mono {d e y z : Int} (h : YearIs d y) (g : YearIs e z) (hd : d ≤ e) : y ≤ z := by
  rcases Int.lt_or_le z y with k | k
  · have := yb_le (show z + 1 ≤ y by omega); have := g.b; have := h.a; omega
  · exact k
theorem yb_1 : yb 1 = -730119 := by decide
def InstP (t : Int) : Prop := -68719476736 ≤ t ∧ t ≤ 68719476736
instance (t : Int) : Decidable (InstP t) := by unfold InstP; exact inferInstance
/-- What the year of an instant is: the year and the error. -/
inductive TimeIs (t : Int) : Int → Int → Prop
  | range (h : ¬ InstP t) : TimeIs t 0 2
  | time (h : InstP t) (h2 : t / 86400 < -730119) : TimeIs t 0 20
  | ok {y : Int} (h : InstP t) (h2 : YearIs (t / 86400) y) : TimeIs t y 0
theorem TimeIs.uniq {t y e y' e' : Int} (h : TimeIs t y e) (h' : TimeIs t y' e') : y = y' ∧ e = e' := by
  cases h <;> cases h'
  · exact ⟨rfl, rfl⟩
  · contradiction
  · contradiction
  · contradiction
  · exact ⟨rfl, rfl⟩
  · rename_i h h2 h3 h4
    have := h4.a; have := yb_le h4.lo; rw [yb_1] at this; omega
  · contradiction
  · rename_i h h2 h3 h4
    have := h2.a; have := yb_le h2.lo; rw [yb_1] at this; omega
  · rename_i h h2 h3 h4
    exact ⟨h2.uniq h4, rfl⟩
theorem TimeIs.lo {t y : Int} (h : TimeIs t y 0) : 1 ≤ y := by
  cases h
  rename_i h h2
  exact h2.lo
theorem TimeIs.mono {t u y z : Int} (h : TimeIs t y 0) (g : TimeIs u z 0) (ht : t ≤ u) : y ≤ z := by
  cases h; cases g
  rename_i a b c d
  exact b.mono d (Int.ediv_le_ediv (by omega) ht)

/-- How many of the first n years are y. -/
def cnt (Y : Nat → Int) (y : Int) : Nat → Nat
  | 0 => 0
  | n + 1 => cnt Y y n + (if Y n = y then 1 else 0)
/-- The sum of the totals of year y. -/
def sm (Y T : Nat → Int) (y : Int) : Nat → Int
  | 0 => 0
  | n + 1 => sm Y T y n + (if Y n = y then T n else 0)
/-- A year begins at place i. -/
def newAt (Y : Nat → Int) (i : Nat) : Prop := i = 0 ∨ Y i ≠ Y (i - 1)
instance (Y : Nat → Int) (i : Nat) : Decidable (newAt Y i) := by unfold newAt; exact inferInstance
/-- The years, each once, in the order in which they come. -/
def keysTo (Y : Nat → Int) : Nat → List Int
  | 0 => []
  | n + 1 => if newAt Y n then keysTo Y n ++ [Y n] else keysTo Y n
def Asc (Y : Nat → Int) (n : Nat) : Prop := ∀ i j, i ≤ j → j < n → Y i ≤ Y j
/-- The findings of a kind over a list of years. -/
def manyL (Y : Nat → Int) (N : Nat) (ev : Int) (K : List Int) : List Int := K.filter fun y => decide (ev < (cnt Y y N : Int))
def muchL (Y T : Nat → Int) (N : Nat) (tot : Int) (K : List Int) : List Int := K.filter fun y => decide (tot < sm Y T y N)
def greatL (T : Nat → Int) (vol : Int) : Nat → List Int
  | 0 => []
  | n + 1 => greatL T vol n ++ (if vol < T n then [(n : Int)] else [])
/-- All findings: kinds and numbers. -/
def finds (Y T : Nat → Int) (N : Nat) (ev vol tot : Int) : List (Int × Int) :=
  (manyL Y N ev (keysTo Y N)).map (fun y => (1, y)) ++ (greatL T vol N).map (fun y => (2, y)) ++ (muchL Y T N tot (keysTo Y N)).map (fun y => (3, y))
end Go.Proofs.YtfgakaielfekoaaGreatDoor

namespace Go.Proofs.YtfgakaielfekoaaGreatDoor
open Go.RowKit
set_option linter.unusedVariables false
set_option linter.unusedSimpArgs false

/-- Events. -/
structure Evs where
  F : Nat → Int
  To : Nat → Int
  Tot : Nat → Int
  Pk : Nat → Int
def lastTo (E : Evs) : Nat → Int
  | 0 => 0
  | i + 1 => E.To i
/-- One event is right, behind an end. -/
def evR (a f t tot pk : Int) : Prop := a ≤ f ∧ f < t ∧ t ≤ 10000 ∧ 1 ≤ pk ∧ pk ≤ 1125899906842624 ∧ pk ≤ tot ∧ tot ≤ 1152921504606846976 ∧ tot ≤ pk * (t - f)
instance (a f t tot pk : Int) : Decidable (evR a f t tot pk) := by unfold evR; exact inferInstance
def evRight (E : Evs) (i : Nat) : Prop := evR (lastTo E i) (E.F i) (E.To i) (E.Tot i) (E.Pk i)
def rightP (E : Evs) (n : Nat) : Prop := n ≤ 10000 ∧ ∀ i, i < n → evRight E i
theorem rightP.to_nn {E : Evs} {n : Nat} (h : rightP E n) : ∀ i, i ≤ n → 0 ≤ lastTo E i := by
  intro i hi
  induction i with
  | zero => exact Int.le_refl _
  | succ k ih =>
    have h1 := ih (by omega)
    have h2 := h.2 k (by omega)
    unfold evRight evR at h2
    show 0 ≤ E.To k
    omega
theorem rightP.bounds {E : Evs} {n i : Nat} (h : rightP E n) (hi : i < n) : 0 ≤ E.F i ∧ E.F i < E.To i ∧ E.To i ≤ 10000 ∧ 1 ≤ E.Tot i ∧ E.Tot i ≤ 1152921504606846976 := by
  have h1 := h.to_nn i (by omega)
  have h2 := h.2 i hi
  unfold evRight evR at h2
  omega
/-- The package's test of an event: the quotient by the peak. -/
theorem peak_div {tot pk d : Int} (h1 : 1 ≤ pk) (h2 : 0 ≤ tot) (q r : Int) (hq : tot / pk = q) (hr : tot % pk = r) : (d < q ∨ (q = d ∧ 0 < r)) ↔ ¬ tot ≤ pk * d := by
  have e := Int.mul_ediv_add_emod tot pk
  have r0 := Int.emod_nonneg tot (show pk ≠ 0 by omega)
  have r1 := Int.emod_lt_of_pos tot (show 0 < pk by omega)
  rw [hq, hr] at e
  rw [hr] at r0 r1
  constructor
  · rintro (h | ⟨h, hr0⟩)
    · have h3 : pk * (d + 1) ≤ pk * q := Int.mul_le_mul_of_nonneg_left (by omega) (by omega)
      rw [Int.mul_add] at h3
      omega
    · subst h; omega
  · intro h
    rcases Int.lt_or_le d q with k | k
    · exact .inl k
    · rcases Int.lt_or_eq_of_le k with k | k
      · exfalso
        have h3 : pk * (q + 1) ≤ pk * d := Int.mul_le_mul_of_nonneg_left (by omega) (by omega)
        rw [Int.mul_add] at h3
        omega
      · subst k; exact .inr ⟨rfl, by omega⟩
/-- The reference's test: the quotient by the steps. -/
theorem steps_div {tot pk d q : Int} (h1 : 1 ≤ d) (h2 : 1 ≤ tot) (hq : (tot - 1) / d = q) : pk ≤ q ↔ ¬ tot ≤ pk * d := by
  rw [← hq, Int.le_ediv_iff_mul_le (by omega)]
  omega

def limR (ev vol tot : Int) : Prop := 0 ≤ ev ∧ ev ≤ 10000 ∧ 0 ≤ vol ∧ vol ≤ 576460752303423488 ∧ 0 ≤ tot ∧ tot ≤ 576460752303423488
instance (ev vol tot : Int) : Decidable (limR ev vol tot) := by unfold limR; exact inferInstance

end Go.Proofs.YtfgakaielfekoaaGreatDoor

namespace Go.Proofs.YtfgakaielfekoaaGreatDoor
open Go.RowKit
set_option linter.unusedVariables false
set_option linter.unusedSimpArgs false

/-- A spill: from, to, sum, peak. -/
structure Sp where
  f : Nat
  t : Nat
  s : Int
  p : Int
instance : Inhabited Sp := ⟨⟨0, 0, 0, 0⟩⟩
def spNew (i : Nat) (z : Int) : Sp := ⟨i, i + 1, z, z⟩
def spOn (x : Sp) (i : Nat) (z : Int) : Sp := ⟨x.f, i + 1, x.s + z, if x.p < z then z else x.p⟩
def runs (v : Nat → Int) : Nat → List Sp
  | 0 => []
  | i + 1 => if v i = 0 then runs v i else match (runs v i).getLast? with
    | some x => if x.t = i then (runs v i).dropLast ++ [spOn x i (v i)] else runs v i ++ [spNew i (v i)]
    | none => [spNew i (v i)]
def evc (L : List Sp) : List Value := L.flatMap fun x => [.int .i64 (x.f : Int), .int .i64 (x.t : Int), .int .i64 x.s, .int .i64 x.p]
theorem evc_snoc (L : List Sp) (x : Sp) : evc (L ++ [x]) = evc L ++ [.int .i64 (x.f : Int), .int .i64 (x.t : Int), .int .i64 x.s, .int .i64 x.p] := by
  unfold evc; rw [List.flatMap_append]; rfl
theorem evc_len (L : List Sp) : (evc L).length = L.length * 4 := by
  induction L with
  | nil => rfl
  | cons x L ih => unfold evc at ih ⊢; rw [List.flatMap_cons, List.length_append, ih]; simp; omega
theorem runs_zero {v : Nat → Int} {i : Nat} (h : v i = 0) : runs v (i + 1) = runs v i := by
  show (if v i = 0 then _ else _) = _
  rw [if_pos h]
theorem runs_none {v : Nat → Int} {i : Nat} (h : v i ≠ 0) (hl : runs v i = []) : runs v (i + 1) = [spNew i (v i)] := by
  show (if v i = 0 then _ else _) = _
  rw [if_neg h, hl]
  rfl
theorem runs_new {v : Nat → Int} {i : Nat} {L : List Sp} {x : Sp} (h : v i ≠ 0) (hl : runs v i = L ++ [x]) (ht : x.t ≠ i) : runs v (i + 1) = L ++ [x] ++ [spNew i (v i)] := by
  show (if v i = 0 then _ else _) = _
  rw [if_neg h, hl]
  simp [ht]
theorem runs_on {v : Nat → Int} {i : Nat} {L : List Sp} {x : Sp} (h : v i ≠ 0) (hl : runs v i = L ++ [x]) (ht : x.t = i) : runs v (i + 1) = L ++ [spOn x i (v i)] := by
  show (if v i = 0 then _ else _) = _
  rw [if_neg h, hl]
  simp [ht]
def evsOf (L : List Sp) : Evs := ⟨fun k => ((L.getD k default).f : Int), fun k => ((L.getD k default).t : Int), fun k => (L.getD k default).s, fun k => (L.getD k default).p⟩
theorem getD_left {α : Type} {L M : List α} {k : Nat} {d : α} (h : k < L.length) : (L ++ M).getD k d = L.getD k d := by
  simp [List.getD, List.getElem?_append_left h]
theorem getD_last {α : Type} (L : List α) (x d : α) : (L ++ [x]).getD L.length d = x := by
  simp [List.getD]
theorem lastTo_left {L M : List Sp} : ∀ {k : Nat}, k ≤ L.length → lastTo (evsOf (L ++ M)) k = lastTo (evsOf L) k
  | 0, _ => rfl
  | k + 1, h => by
    show ((((L ++ M).getD k default).t : Nat) : Int) = (((L.getD k default).t : Nat) : Int)
    rw [getD_left (by omega)]
theorem right_snoc {L : List Sp} {x : Sp} (h : rightP (evsOf L) L.length) (hx : evR (lastTo (evsOf L) L.length) x.f x.t x.s x.p) (hn : L.length < 10000) : rightP (evsOf (L ++ [x])) (L.length + 1) := by
  refine ⟨by omega, fun k hk => ?_⟩
  unfold evRight
  by_cases e : k < L.length
  · have hr := h.2 k e
    unfold evRight at hr
    rw [lastTo_left (by omega)]
    show evR _ (((L ++ [x]).getD k default).f : Int) (((L ++ [x]).getD k default).t : Int) ((L ++ [x]).getD k default).s ((L ++ [x]).getD k default).p
    rw [getD_left e]
    exact hr
  · have e : k = L.length := by omega
    subst e
    rw [lastTo_left (Nat.le_refl _)]
    show evR _ (((L ++ [x]).getD L.length default).f : Int) (((L ++ [x]).getD L.length default).t : Int) ((L ++ [x]).getD L.length default).s ((L ++ [x]).getD L.length default).p
    rw [getD_last]
    exact hx
theorem right_init {L : List Sp} {x : Sp} (h : rightP (evsOf (L ++ [x])) (L.length + 1)) : rightP (evsOf L) L.length ∧ evR (lastTo (evsOf L) L.length) x.f x.t x.s x.p := by
  have hl : (L ++ [x]).length = L.length + 1 := by simp
  refine ⟨⟨by have := h.1; omega, fun k hk => ?_⟩, ?_⟩
  · have hr := h.2 k (by omega)
    unfold evRight at hr ⊢
    rw [lastTo_left (by omega)] at hr
    have hr : evR (lastTo (evsOf L) k) (((L ++ [x]).getD k default).f : Int) (((L ++ [x]).getD k default).t : Int) ((L ++ [x]).getD k default).s ((L ++ [x]).getD k default).p := hr
    rw [getD_left hk] at hr
    exact hr
  · have hr := h.2 L.length (by omega)
    unfold evRight at hr
    rw [lastTo_left (Nat.le_refl _)] at hr
    have hr : evR (lastTo (evsOf L) L.length) (((L ++ [x]).getD L.length default).f : Int) (((L ++ [x]).getD L.length default).t : Int) ((L ++ [x]).getD L.length default).s ((L ++ [x]).getD L.length default).p := hr
    rw [getD_last] at hr
    exact hr
def sumS : List Sp → Int
  | [] => 0
  | x :: L => x.s + sumS L
theorem sumS_app (L M : List Sp) : sumS (L ++ M) = sumS L + sumS M := by
  induction L with
  | nil => show sumS M = 0 + sumS M; omega
  | cons x L ih => show x.s + sumS (L ++ M) = x.s + sumS L + sumS M; omega
/-- What runs keep. -/
structure RGood (v : Nat → Int) (i : Nat) (L : List Sp) : Prop where
  right : rightP (evsOf L) L.length
  len : L.length ≤ i
  sum : 0 ≤ sumS L ∧ sumS L ≤ 1125899906842624 * i
  each : ∀ x ∈ L, 0 < x.s ∧ x.s ≤ 1125899906842624 * ((x.t : Int) - x.f) ∧ x.f < x.t ∧ x.t ≤ i ∧ 1 ≤ x.p
theorem peak_on {p s d z : Int} (hd : 0 ≤ d) (hs : s ≤ p * d) : s + z ≤ (if p < z then z else p) * (d + 1) := by
  split
  · rename_i h
    have h1 : p * d ≤ z * d := Int.mul_le_mul_of_nonneg_right (by omega) hd
    rw [Int.mul_add, Int.mul_one]
    omega
  · rw [Int.mul_add, Int.mul_one]
    omega
theorem lastTo_bd {v : Nat → Int} {i : Nat} {L : List Sp} (h : RGood v i L) : lastTo (evsOf L) L.length ≤ i := by
  rcases List.eq_nil_or_concat L with e | ⟨M, x, e⟩
  · subst e; show (0 : Int) ≤ i; omega
  · rw [List.concat_eq_append] at e
    subst e
    have hx := (h.each x (by simp)).2.2.2.1
    rw [List.length_append]
    show (((((M ++ [x]).getD M.length default).t : Nat) : Int)) ≤ i
    rw [getD_last]
    omega
theorem runs_good {v : Nat → Int} : ∀ {i : Nat}, i ≤ 20 → (∀ k, k < i → 0 ≤ v k ∧ v k ≤ 1125899906842624) → RGood v i (runs v i)
  | 0, _, _ => by
    show RGood v 0 []
    exact ⟨⟨Nat.zero_le _, fun k hk => absurd hk (Nat.not_lt_zero _)⟩, Nat.le_refl _, ⟨Int.le_refl _, Int.le_refl _⟩, fun x hx => by simp at hx⟩
  | i + 1, h20, hv => by
    have ih := runs_good (v := v) (i := i) (by omega) fun k hk => hv k (by omega)
    have hz := hv i (by omega)
    have ic : ((i + 1 : Nat) : Int) = (i : Int) + 1 := by omega
    by_cases h0 : v i = 0
    · rw [runs_zero h0]
      refine ⟨ih.right, by have := ih.len; omega, ⟨ih.sum.1, ?_⟩, fun x hx => ?_⟩
      · have := ih.sum.2; rw [ic, Int.mul_add]; omega
      · have := ih.each x hx
        exact ⟨this.1, this.2.1, this.2.2.1, by omega, this.2.2.2.2⟩
    · have fresh : ∀ L, runs v i = L → RGood v (i + 1) (L ++ [spNew i (v i)]) := by
        intro L e
        rw [e] at ih
        have hb := lastTo_bd ih
        have hlen := ih.len
        refine ⟨?_, by simp; omega, ?_, ?_⟩
        · rw [List.length_append]
          refine right_snoc ih.right ?_ (by omega)
          show evR _ ((i : Nat) : Int) ((i + 1 : Nat) : Int) (v i) (v i)
          unfold evR
          rw [ic]
          have e1 : (i : Int) + 1 - i = 1 := by omega
          rw [e1, Int.mul_one]
          omega
        · rw [sumS_app]
          have := ih.sum
          show 0 ≤ sumS L + (v i + 0) ∧ sumS L + (v i + 0) ≤ _
          rw [ic, Int.mul_add]
          omega
        · intro x hx
          rcases List.mem_append.1 hx with g | g
          · have := ih.each x g
            exact ⟨this.1, this.2.1, this.2.2.1, by omega, this.2.2.2.2⟩
          · rw [List.mem_singleton.1 g]
            show 0 < v i ∧ v i ≤ 1125899906842624 * (((i + 1 : Nat) : Int) - (i : Nat)) ∧ i < i + 1 ∧ i + 1 ≤ i + 1 ∧ 1 ≤ v i
            rw [ic]
            have e1 : (i : Int) + 1 - i = 1 := by omega
            rw [e1]
            omega
      rcases List.eq_nil_or_concat (runs v i) with e | ⟨M, x, e⟩
      · rw [runs_none h0 e]
        exact fresh [] e
      · rw [List.concat_eq_append] at e
        by_cases ht : x.t = i
        · rw [runs_on h0 e ht]
          rw [e] at ih
          have hr : rightP (evsOf (M ++ [x])) (M.length + 1) := by have := ih.right; rwa [List.length_append] at this
          obtain ⟨hM, hx⟩ := right_init hr
          have hex := ih.each x (by simp)
          have hlen := ih.len
          rw [List.length_append] at hlen
          have hlen : M.length + 1 ≤ i := hlen
          unfold evR at hx
          have hp := peak_on (p := x.p) (s := x.s) (d := (x.t : Int) - x.f) (z := v i) (by omega) hx.2.2.2.2.2.2.2
          have es : x.s + v i ≤ 1125899906842624 * ((i : Int) + 1 - x.f) := by
            have := hex.2.1
            rw [ht] at this
            have e1 : (i : Int) + 1 - x.f = (i - x.f) + 1 := by omega
            rw [e1, Int.mul_add]
            omega
          refine ⟨?_, by simp; omega, ?_, ?_⟩
          · rw [List.length_append]
            refine right_snoc hM ?_ (by omega)
            show evR _ (x.f : Int) ((i + 1 : Nat) : Int) (x.s + v i) (if x.p < v i then v i else x.p)
            unfold evR
            rw [ic]
            have e1 : (i : Int) + 1 - x.f = ((x.t : Int) - x.f) + 1 := by omega
            rw [e1]
            have e2 : x.s + v i ≤ 1125899906842624 * (20 : Int) := by
              refine Int.le_trans es (Int.mul_le_mul_of_nonneg_left (by omega) (by omega))
            refine ⟨hx.1, by omega, by omega, ?_, ?_, ?_, by omega, hp⟩ <;> (split <;> omega)
          · have := ih.sum
            rw [sumS_app] at this ⊢
            have this : 0 ≤ sumS M + (x.s + 0) ∧ sumS M + (x.s + 0) ≤ 1125899906842624 * (i : Int) := this
            show 0 ≤ sumS M + (x.s + v i + 0) ∧ sumS M + (x.s + v i + 0) ≤ _
            rw [ic, Int.mul_add]
            omega
          · intro y hy
            rcases List.mem_append.1 hy with g | g
            · have := ih.each y (List.mem_append_left _ g)
              exact ⟨this.1, this.2.1, this.2.2.1, by omega, this.2.2.2.2⟩
            · rw [List.mem_singleton.1 g]
              show 0 < x.s + v i ∧ x.s + v i ≤ 1125899906842624 * (((i + 1 : Nat) : Int) - x.f) ∧ x.f < i + 1 ∧ i + 1 ≤ i + 1 ∧ 1 ≤ (if x.p < v i then v i else x.p)
              rw [ic]
              refine ⟨by omega, es, by omega, by omega, ?_⟩
              split <;> omega
        · rw [runs_new h0 e ht]
          exact fresh _ e
end Go.Proofs.YtfgakaielfekoaaGreatDoor

namespace Go.Proofs.YtfgakaielfekoaaGreatDoor
open Go.RowKit
set_option linter.unusedVariables false
set_option linter.unusedSimpArgs false

/-- n events from an address on. -/
def EvAt (w : World) (b off n : Nat) (E : Evs) : Prop := b < w.heap.size ∧ ∀ k, k < n → w.cell? ⟨b, off + k * 4, none⟩ = some (.int .i64 (E.F k)) ∧ w.cell? ⟨b, off + k * 4 + 1, none⟩ = some (.int .i64 (E.To k)) ∧ w.cell? ⟨b, off + k * 4 + 2, none⟩ = some (.int .i64 (E.Tot k)) ∧ w.cell? ⟨b, off + k * 4 + 3, none⟩ = some (.int .i64 (E.Pk k))
theorem EvAt.below {w w' : World} {B b off n : Nat} {E : Evs} (h : EvAt w b off n E) (hb : Below B w w') (hB : b < B) : EvAt w' b off n E :=
  ⟨Nat.lt_of_lt_of_le h.1 (Nat.le_trans (Nat.le_refl _) hb.size), fun k hk => by
    obtain ⟨h0, h1, h2, h3⟩ := h.2 k hk
    exact ⟨(hb.cell (p := ⟨b, off + k * 4, none⟩) hB).trans h0, (hb.cell (p := ⟨b, off + k * 4 + 1, none⟩) hB).trans h1, (hb.cell (p := ⟨b, off + k * 4 + 2, none⟩) hB).trans h2, (hb.cell (p := ⟨b, off + k * 4 + 3, none⟩) hB).trans h3⟩⟩
/-- A slice of events, nil perhaps. -/
def EvIn (w : World) (A : Option Addr) (n : Nat) (E : Evs) : Prop := n ≤ 9223372036854775807 ∧ (n = 0 ∨ ∃ b off, A = some ⟨b, off, none⟩ ∧ EvAt w b off n E)
theorem EvIn.below {w w' : World} {B n : Nat} {A : Option Addr} {E : Evs} (h : EvIn w A n E) (hB : w.heap.size ≤ B) (hb : Below B w w') : EvIn w' A n E := by
  refine ⟨h.1, ?_⟩
  rcases h.2 with h0 | ⟨b, off, hA, ht⟩
  · exact .inl h0
  · exact .inr ⟨b, off, hA, ht.below hb (Nat.lt_of_lt_of_le ht.1 hB)⟩
theorem EvIn.take {w : World} {A : Option Addr} {n m : Nat} {E : Evs} (h : EvIn w A n E) (hm : m ≤ n) : EvIn w A m E := by
  refine ⟨Nat.le_trans hm h.1, ?_⟩
  rcases h.2 with h0 | ⟨b, off, hA, ht⟩
  · exact .inl (by omega)
  · exact .inr ⟨b, off, hA, ht.1, fun k hk => ht.2 k (by omega)⟩
/-- The slice's cells at an index, wherever it lies. -/
theorem EvIn.at {w : World} {A : Option Addr} {n k : Nat} {E : Evs} (h : EvIn w A n E) (hk : k < n) : ∃ b off, A = some ⟨b, off, none⟩ ∧ b < w.heap.size ∧ w.cell? ⟨b, off + k * 4, none⟩ = some (.int .i64 (E.F k)) ∧ w.cell? ⟨b, off + k * 4 + 1, none⟩ = some (.int .i64 (E.To k)) ∧ w.cell? ⟨b, off + k * 4 + 2, none⟩ = some (.int .i64 (E.Tot k)) ∧ w.cell? ⟨b, off + k * 4 + 3, none⟩ = some (.int .i64 (E.Pk k)) := by
  rcases h.2 with h0 | ⟨b, off, hA, ht⟩
  · omega
  · exact ⟨b, off, hA, ht.1, ht.2 k hk⟩

set_option maxRecDepth 100000 in
set_option maxHeartbeats 4000000 in
theorem tright (A : Option Addr) (n c : Nat) (E : Evs) (h40 : n ≤ 40) (w : World) (hT : EvIn w A n E) (rb : Bool) (hr : rb = true ↔ rightP E n) : Calls Tryz.prog 81 #[.slice A n c] w fun e w' => e = .returned (.bool rb) ∧ Below w.heap.size w w' := by
  have HT := Lib.hid hT
  have H40 := Lib.hid h40
  have HR := Lib.hid hr
  have t0 : decide ((10000 : Int) < (n : Int)) = false := decide_eq_false (by omega)
  clear hT h40 hr
  go_enter Tryz.func81, Tryz.ntmps81
  go_wp2_with fail
  go_loopw [3, 11] (fun u v wr => ∃ i : Nat, Hid (i ≤ n) ∧ Hid (∀ j, j < i → evRight E j) ∧ u = .int .i64 (lastTo E i) ∧ v = .int .i64 i ∧ Hid (Below w.heap.size w wr)) (fun _ v _ => n - (intOf v).toNat)
  case atStart => exact ⟨0, Nat.zero_le _, fun j hj => absurd hj (Nat.not_lt_zero _), rfl, rfl, by (repeat' (first | assumption | exact Below.refl _ _ | exact Below.size (by assumption) | (refine Below.setCell ?_ ?_ _) | (refine Below.alloc ?_ ?_ _) | (refine Below.drew ?_) | (refine below_drewN ?_ _) | (refine Below.trans ?_ (Below.mono ‹Below _ _ _› ?_)) | omega | (simp; done) | (simp; omega) | (simp at *; omega)))⟩
  case round =>
    obtain ⟨i, Hi, HG, rfl, rfl, HW⟩ := hrel
    by_cases hlt : i < n
    · have T0 : decide ((i : Int) < (n : Int)) = true := by simp <;> omega
      obtain ⟨i', hi'⟩ : ∃ z, z = i + 1 := ⟨_, rfl⟩
      have x0 : IntKind.i64.wrap ((i : Int) + 1) = (i' : Int) := by have := H40.out; rw [IntKind.wrap_i64]; omega
      have HI' : Hid (i' ≤ n) := by show i' ≤ n; omega
      have HMS : Hid (n - (intOf (Value.int .i64 (i' : Int))).toNat < n - (intOf (Value.int .i64 (i : Int))).toNat) := by show _ < _; simp [intOf]; omega
      have k0 : (0 : Int) ≤ (i : Int) := by omega
      have k1 : (i : Int) < (n : Int) := by omega
      obtain ⟨b, off, rfl, hb, c0, c1, c2, c3⟩ := (HT.out.below (Nat.le_refl _) HW.out).at hlt
      obtain ⟨f, hf⟩ : ∃ z, z = E.F i := ⟨_, rfl⟩
      obtain ⟨t, ht⟩ : ∃ z, z = E.To i := ⟨_, rfl⟩
      obtain ⟨tt, htt⟩ : ∃ z, z = E.Tot i := ⟨_, rfl⟩
      obtain ⟨pk, hpk⟩ : ∃ z, z = E.Pk i := ⟨_, rfl⟩
      obtain ⟨a, ha⟩ : ∃ z, z = lastTo E i := ⟨_, rfl⟩
      have ha' : lastTo E i' = t := by rw [hi', ht]; rfl
      have ha0 : 0 ≤ a := by
        rw [ha]
        cases i with
        | zero => exact Int.le_refl _
        | succ k =>
          have : rightP E (k + 1) := ⟨by have := H40.out; omega, HG.out⟩
          exact this.to_nn (k + 1) (Nat.le_refl _)
      rw [← hf] at c0
      rw [← ht] at c1
      rw [← htt] at c2
      rw [← hpk] at c3
      rw [← ha]
      have hev : Hid (evRight E i ↔ evR a f t tt pk) := by show _ ↔ _; unfold evRight; rw [← ha, ← hf, ← ht, ← htt, ← hpk]
      have HBAD : Hid (¬ evR a f t tt pk → rb = false) := by
        show _ → _
        intro h
        cases hrb : rb with
        | false => rfl
        | true => exact absurd (hev.out.1 ((HR.out.1 hrb).2 i hlt)) h
      have HGOOD : Hid (evR a f t tt pk → ∀ j, j < i' → evRight E j) := by
        show _ → _
        intro h j hj
        rcases Nat.lt_or_ge j i with g | g
        · exact HG.out j g
        · obtain rfl : j = i := by omega
          exact hev.out.2 h
      have HU : Hid (Value.int .i64 t = .int .i64 (lastTo E i')) := by show _ = _; rw [ha']
      clear hi' hlt hf ht htt hpk ha ha' hev
      by_cases g0 : f < a
      · have t1 : decide (f < a) = true := decide_eq_true g0
        obtain rfl : rb = false := HBAD.out (by unfold evR; omega)
        clear ha0 g0
        go_wp2_with fail
        go_ret
        exact ⟨rfl, by have := HW.out; (repeat' (first | assumption | exact Below.refl _ _ | exact Below.size (by assumption) | (refine Below.setCell ?_ ?_ _) | (refine Below.alloc ?_ ?_ _) | (refine Below.drew ?_) | (refine below_drewN ?_ _) | (refine Below.trans ?_ (Below.mono ‹Below _ _ _› ?_)) | omega | (simp; done) | (simp; omega) | (simp at *; omega)))⟩
      · have t1 : decide (f < a) = false := decide_eq_false g0
        by_cases g1 : t ≤ f
        · have t2 : decide (t ≤ f) = true := decide_eq_true g1
          obtain rfl : rb = false := HBAD.out (by unfold evR; omega)
          clear ha0 g0 g1
          go_wp2_with fail
          go_ret
          exact ⟨rfl, by have := HW.out; (repeat' (first | assumption | exact Below.refl _ _ | exact Below.size (by assumption) | (refine Below.setCell ?_ ?_ _) | (refine Below.alloc ?_ ?_ _) | (refine Below.drew ?_) | (refine below_drewN ?_ _) | (refine Below.trans ?_ (Below.mono ‹Below _ _ _› ?_)) | omega | (simp; done) | (simp; omega) | (simp at *; omega)))⟩
        · have t2 : decide (t ≤ f) = false := decide_eq_false g1
          by_cases g2 : 10000 < t
          · have t3 : decide ((10000 : Int) < t) = true := decide_eq_true g2
            obtain rfl : rb = false := HBAD.out (by unfold evR; omega)
            clear ha0 g0 g1 g2
            go_wp2_with fail
            go_ret
            exact ⟨rfl, by have := HW.out; (repeat' (first | assumption | exact Below.refl _ _ | exact Below.size (by assumption) | (refine Below.setCell ?_ ?_ _) | (refine Below.alloc ?_ ?_ _) | (refine Below.drew ?_) | (refine below_drewN ?_ _) | (refine Below.trans ?_ (Below.mono ‹Below _ _ _› ?_)) | omega | (simp; done) | (simp; omega) | (simp at *; omega)))⟩
          · have t3 : decide ((10000 : Int) < t) = false := decide_eq_false g2
            by_cases g3 : pk < 1
            · have t4 : decide (pk < (1 : Int)) = true := decide_eq_true g3
              obtain rfl : rb = false := HBAD.out (by unfold evR; omega)
              clear ha0 g0 g1 g2 g3
              go_wp2_with fail
              go_ret
              exact ⟨rfl, by have := HW.out; (repeat' (first | assumption | exact Below.refl _ _ | exact Below.size (by assumption) | (refine Below.setCell ?_ ?_ _) | (refine Below.alloc ?_ ?_ _) | (refine Below.drew ?_) | (refine below_drewN ?_ _) | (refine Below.trans ?_ (Below.mono ‹Below _ _ _› ?_)) | omega | (simp; done) | (simp; omega) | (simp at *; omega)))⟩
            · have t4 : decide (pk < (1 : Int)) = false := decide_eq_false g3
              by_cases g4 : 1125899906842624 < pk
              · have t5 : decide ((1125899906842624 : Int) < pk) = true := decide_eq_true g4
                obtain rfl : rb = false := HBAD.out (by unfold evR; omega)
                clear ha0 g0 g1 g2 g3 g4
                go_wp2_with fail
                go_ret
                exact ⟨rfl, by have := HW.out; (repeat' (first | assumption | exact Below.refl _ _ | exact Below.size (by assumption) | (refine Below.setCell ?_ ?_ _) | (refine Below.alloc ?_ ?_ _) | (refine Below.drew ?_) | (refine below_drewN ?_ _) | (refine Below.trans ?_ (Below.mono ‹Below _ _ _› ?_)) | omega | (simp; done) | (simp; omega) | (simp at *; omega)))⟩
              · have t5 : decide ((1125899906842624 : Int) < pk) = false := decide_eq_false g4
                by_cases g5 : tt < pk
                · have t6 : decide (tt < pk) = true := decide_eq_true g5
                  obtain rfl : rb = false := HBAD.out (by unfold evR; omega)
                  clear ha0 g0 g1 g2 g3 g4 g5
                  go_wp2_with fail
                  go_ret
                  exact ⟨rfl, by have := HW.out; (repeat' (first | assumption | exact Below.refl _ _ | exact Below.size (by assumption) | (refine Below.setCell ?_ ?_ _) | (refine Below.alloc ?_ ?_ _) | (refine Below.drew ?_) | (refine below_drewN ?_ _) | (refine Below.trans ?_ (Below.mono ‹Below _ _ _› ?_)) | omega | (simp; done) | (simp; omega) | (simp at *; omega)))⟩
                · have t6 : decide (tt < pk) = false := decide_eq_false g5
                  by_cases g6 : 1152921504606846976 < tt
                  · have t7 : decide ((1152921504606846976 : Int) < tt) = true := decide_eq_true g6
                    obtain rfl : rb = false := HBAD.out (by unfold evR; omega)
                    clear ha0 g0 g1 g2 g3 g4 g5 g6
                    go_wp2_with fail
                    go_ret
                    exact ⟨rfl, by have := HW.out; (repeat' (first | assumption | exact Below.refl _ _ | exact Below.size (by assumption) | (refine Below.setCell ?_ ?_ _) | (refine Below.alloc ?_ ?_ _) | (refine Below.drew ?_) | (refine below_drewN ?_ _) | (refine Below.trans ?_ (Below.mono ‹Below _ _ _› ?_)) | omega | (simp; done) | (simp; omega) | (simp at *; omega)))⟩
                  · have t7 : decide ((1152921504606846976 : Int) < tt) = false := decide_eq_false g6
                    obtain ⟨d, hd⟩ : ∃ z, z = t - f := ⟨_, rfl⟩
                    obtain ⟨q, hq⟩ : ∃ z, z = tt / pk := ⟨_, rfl⟩
                    obtain ⟨r, hr⟩ : ∃ z, z = tt % pk := ⟨_, rfl⟩
                    have hpd := peak_div (tot := tt) (pk := pk) (d := d) (by omega) (by omega) q r hq.symm hr.symm
                    have r0 : 0 ≤ r := by rw [hr]; exact Int.emod_nonneg tt (by omega)
                    have q0 : 0 ≤ q := by rw [hq]; exact Int.ediv_nonneg (by omega) (by omega)
                    have q1 : q ≤ tt := by rw [hq]; exact Int.ediv_le_self pk (by omega)
                    have y1 : Int.tdiv tt pk = q := by rw [hq]; exact Int.tdiv_eq_ediv_of_nonneg (by omega)
                    have y2 : IntKind.i64.wrap q = q := by rw [IntKind.wrap_i64]; omega
                    have y3 : Int.tmod tt pk = r := by rw [hr]; exact Int.tmod_eq_emod_of_nonneg (by omega)
                    have y4 : IntKind.i64.wrap (t - f) = d := by rw [IntKind.wrap_i64, hd]; omega
                    have y5 : ¬ pk = 0 := by omega
                    have y6 : decide (pk = 0) = false := decide_eq_false y5
                    have y7 : IntKind.i64.wrap r = r := by rw [IntKind.wrap_i64]; have := Int.emod_lt_of_pos tt (show 0 < pk by omega); omega
                    clear hq hr
                    by_cases z1 : d < q
                    · have v1 : decide (d < q) = true := decide_eq_true z1
                      obtain rfl : rb = false := HBAD.out (by unfold evR; intro h; rw [← hd] at h; exact hpd.1 (.inl z1) h.2.2.2.2.2.2.2)
                      clear ha0 g0 g1 g2 g3 g4 g5 g6 hpd r0 q0 q1 z1 hd
                      go_wp2_with fail
                      go_quiet (fail)
                      go_wp2_with fail
                      go_ret
                      exact ⟨rfl, by have := HW.out; (repeat' (first | assumption | exact Below.refl _ _ | exact Below.size (by assumption) | (refine Below.setCell ?_ ?_ _) | (refine Below.alloc ?_ ?_ _) | (refine Below.drew ?_) | (refine below_drewN ?_ _) | (refine Below.trans ?_ (Below.mono ‹Below _ _ _› ?_)) | omega | (simp; done) | (simp; omega) | (simp at *; omega)))⟩
                    · have v1 : decide (d < q) = false := decide_eq_false z1
                      by_cases z2 : q = d
                      · obtain rfl : q = d := z2
                        by_cases z3 : 0 < r
                        · have v3 : decide (0 < r) = true := decide_eq_true z3
                          obtain rfl : rb = false := HBAD.out (by unfold evR; intro h; rw [← hd] at h; exact hpd.1 (.inr ⟨rfl, z3⟩) h.2.2.2.2.2.2.2)
                          clear ha0 g0 g1 g2 g3 g4 g5 g6 hpd r0 q0 q1 z1 z3 hd
                          go_wp2_with fail
                          go_quiet (fail)
                          go_wp2_with fail
                          go_ret
                          exact ⟨rfl, by have := HW.out; (repeat' (first | assumption | exact Below.refl _ _ | exact Below.size (by assumption) | (refine Below.setCell ?_ ?_ _) | (refine Below.alloc ?_ ?_ _) | (refine Below.drew ?_) | (refine below_drewN ?_ _) | (refine Below.trans ?_ (Below.mono ‹Below _ _ _› ?_)) | omega | (simp; done) | (simp; omega) | (simp at *; omega)))⟩
                        · have v3 : decide (0 < r) = false := decide_eq_false z3
                          have hz : tt ≤ pk * q := Classical.byContradiction fun h => Or.elim (hpd.2 h) (fun h => z1 h) (fun h => z3 h.2)
                          have HG2 : Hid (∀ j, j < i' → evRight E j) := HGOOD.out (by unfold evR; rw [← hd]; refine ⟨?_, ?_, ?_, ?_, ?_, ?_, ?_, hz⟩ <;> omega)
                          clear hz
                          clear ha0 g0 g1 g2 g3 g4 g5 g6 hpd r0 q0 q1 z1 z3 hd
                          go_wp2_with fail
                          go_quiet (fail)
                          go_wp2_with fail
                          go_roundw
                          case rel => exact ⟨i', HI', HG2, HU.out, rfl, by have := HW.out; (repeat' (first | assumption | exact Below.refl _ _ | exact Below.size (by assumption) | (refine Below.setCell ?_ ?_ _) | (refine Below.alloc ?_ ?_ _) | (refine Below.drew ?_) | (refine below_drewN ?_ _) | (refine Below.trans ?_ (Below.mono ‹Below _ _ _› ?_)) | omega | (simp; done) | (simp; omega) | (simp at *; omega)))⟩
                          case measure => exact HMS.out
                      · have v2 : decide (q = d) = false := decide_eq_false z2
                        have hz : tt ≤ pk * d := Classical.byContradiction fun h => Or.elim (hpd.2 h) (fun h => z1 h) (fun h => z2 h.1)
                        have HG2 : Hid (∀ j, j < i' → evRight E j) := HGOOD.out (by unfold evR; rw [← hd]; refine ⟨?_, ?_, ?_, ?_, ?_, ?_, ?_, hz⟩ <;> omega)
                        clear hz
                        clear ha0 g0 g1 g2 g3 g4 g5 g6 hpd r0 q0 q1 z1 hd
                        go_wp2_with fail
                        go_quiet (fail)
                        go_wp2_with fail
                        go_roundw
                        case rel => exact ⟨i', HI', HG2, HU.out, rfl, by have := HW.out; (repeat' (first | assumption | exact Below.refl _ _ | exact Below.size (by assumption) | (refine Below.setCell ?_ ?_ _) | (refine Below.alloc ?_ ?_ _) | (refine Below.drew ?_) | (refine below_drewN ?_ _) | (refine Below.trans ?_ (Below.mono ‹Below _ _ _› ?_)) | omega | (simp; done) | (simp; omega) | (simp at *; omega)))⟩
                        case measure => exact HMS.out
    · have hin : i = n := by have := Hi.out; omega
      have T0 : decide ((i : Int) < (n : Int)) = false := by simp <;> omega
      have T0' : decide (i < n) = false := decide_eq_false hlt
      obtain rfl : rb = true := HR.out.2 ⟨by have := H40.out; omega, by rw [← hin]; exact HG.out⟩
      clear hlt hin
      go_wp2_with fail
      go_ret
      exact ⟨rfl, by have := HW.out; (repeat' (first | assumption | exact Below.refl _ _ | exact Below.size (by assumption) | (refine Below.setCell ?_ ?_ _) | (refine Below.alloc ?_ ?_ _) | (refine Below.drew ?_) | (refine below_drewN ?_ _) | (refine Below.trans ?_ (Below.mono ‹Below _ _ _› ?_)) | omega | (simp; done) | (simp; omega) | (simp at *; omega)))⟩
set_option maxRecDepth 100000 in
set_option maxHeartbeats 4000000 in
theorem rright (A : Option Addr) (n c : Nat) (E : Evs) (h40 : n ≤ 40) (w : World) (hT : EvIn w A n E) (rb : Bool) (hr : rb = true ↔ rightP E n) : Calls Tryz.prog 117 #[.slice A n c] w fun e w' => e = .returned (.bool rb) ∧ Below w.heap.size w w' := by
  have HT := Lib.hid hT
  have H40 := Lib.hid h40
  have HR := Lib.hid hr
  have t0 : decide ((10000 : Int) < (n : Int)) = false := decide_eq_false (by omega)
  clear hT h40 hr
  go_enter Tryz.func117, Tryz.ntmps117
  go_wp2_with fail
  go_loopw [3, 4] (fun u v wr => ∃ i : Nat, Hid (i ≤ n) ∧ Hid (∀ j, j < i → evRight E j) ∧ u = .int .i64 (lastTo E i) ∧ v = .int .i64 i ∧ Hid (Below w.heap.size w wr)) (fun _ v _ => n - (intOf v).toNat)
  case atStart => exact ⟨0, Nat.zero_le _, fun j hj => absurd hj (Nat.not_lt_zero _), rfl, rfl, by (repeat' (first | assumption | exact Below.refl _ _ | exact Below.size (by assumption) | (refine Below.setCell ?_ ?_ _) | (refine Below.alloc ?_ ?_ _) | (refine Below.drew ?_) | (refine below_drewN ?_ _) | (refine Below.trans ?_ (Below.mono ‹Below _ _ _› ?_)) | omega | (simp; done) | (simp; omega) | (simp at *; omega)))⟩
  case round =>
    obtain ⟨i, Hi, HG, rfl, rfl, HW⟩ := hrel
    by_cases hlt : i < n
    · have T0 : decide ((i : Int) < (n : Int)) = true := by simp <;> omega
      obtain ⟨i', hi'⟩ : ∃ z, z = i + 1 := ⟨_, rfl⟩
      have x0 : IntKind.i64.wrap ((i : Int) + 1) = (i' : Int) := by have := H40.out; rw [IntKind.wrap_i64]; omega
      have HI' : Hid (i' ≤ n) := by show i' ≤ n; omega
      have HMS : Hid (n - (intOf (Value.int .i64 (i' : Int))).toNat < n - (intOf (Value.int .i64 (i : Int))).toNat) := by show _ < _; simp [intOf]; omega
      have k0 : (0 : Int) ≤ (i : Int) := by omega
      have k1 : (i : Int) < (n : Int) := by omega
      obtain ⟨b, off, rfl, hb, c0, c1, c2, c3⟩ := (HT.out.below (Nat.le_refl _) HW.out).at hlt
      obtain ⟨f, hf⟩ : ∃ z, z = E.F i := ⟨_, rfl⟩
      obtain ⟨t, ht⟩ : ∃ z, z = E.To i := ⟨_, rfl⟩
      obtain ⟨tt, htt⟩ : ∃ z, z = E.Tot i := ⟨_, rfl⟩
      obtain ⟨pk, hpk⟩ : ∃ z, z = E.Pk i := ⟨_, rfl⟩
      obtain ⟨a, ha⟩ : ∃ z, z = lastTo E i := ⟨_, rfl⟩
      have ha' : lastTo E i' = t := by rw [hi', ht]; rfl
      have ha0 : 0 ≤ a := by
        rw [ha]
        cases i with
        | zero => exact Int.le_refl _
        | succ k =>
          have : rightP E (k + 1) := ⟨by have := H40.out; omega, HG.out⟩
          exact this.to_nn (k + 1) (Nat.le_refl _)
      rw [← hf] at c0
      rw [← ht] at c1
      rw [← htt] at c2
      rw [← hpk] at c3
      rw [← ha]
      have hev : Hid (evRight E i ↔ evR a f t tt pk) := by show _ ↔ _; unfold evRight; rw [← ha, ← hf, ← ht, ← htt, ← hpk]
      have HBAD : Hid (¬ evR a f t tt pk → rb = false) := by
        show _ → _
        intro h
        cases hrb : rb with
        | false => rfl
        | true => exact absurd (hev.out.1 ((HR.out.1 hrb).2 i hlt)) h
      have HGOOD : Hid (evR a f t tt pk → ∀ j, j < i' → evRight E j) := by
        show _ → _
        intro h j hj
        rcases Nat.lt_or_ge j i with g | g
        · exact HG.out j g
        · obtain rfl : j = i := by omega
          exact hev.out.2 h
      have HU : Hid (Value.int .i64 t = .int .i64 (lastTo E i')) := by show _ = _; rw [ha']
      clear hi' hlt hf ht htt hpk ha ha' hev
      by_cases g0 : f < a
      · have t1 : decide (f < a) = true := decide_eq_true g0
        obtain rfl : rb = false := HBAD.out (by unfold evR; omega)
        clear ha0 g0
        go_wp2_with fail
        go_quiet (fail)
        go_wp2_with fail
        go_ret
        exact ⟨rfl, by have := HW.out; (repeat' (first | assumption | exact Below.refl _ _ | exact Below.size (by assumption) | (refine Below.setCell ?_ ?_ _) | (refine Below.alloc ?_ ?_ _) | (refine Below.drew ?_) | (refine below_drewN ?_ _) | (refine Below.trans ?_ (Below.mono ‹Below _ _ _› ?_)) | omega | (simp; done) | (simp; omega) | (simp at *; omega)))⟩
      · have t1 : decide (f < a) = false := decide_eq_false g0
        by_cases g1 : t ≤ f
        · have t2 : decide (t ≤ f) = true := decide_eq_true g1
          obtain rfl : rb = false := HBAD.out (by unfold evR; omega)
          clear ha0 g0 g1
          go_wp2_with fail
          go_quiet (fail)
          go_wp2_with fail
          go_ret
          exact ⟨rfl, by have := HW.out; (repeat' (first | assumption | exact Below.refl _ _ | exact Below.size (by assumption) | (refine Below.setCell ?_ ?_ _) | (refine Below.alloc ?_ ?_ _) | (refine Below.drew ?_) | (refine below_drewN ?_ _) | (refine Below.trans ?_ (Below.mono ‹Below _ _ _› ?_)) | omega | (simp; done) | (simp; omega) | (simp at *; omega)))⟩
        · have t2 : decide (t ≤ f) = false := decide_eq_false g1
          by_cases g2 : 10000 < t
          · have t3 : decide ((10000 : Int) < t) = true := decide_eq_true g2
            obtain rfl : rb = false := HBAD.out (by unfold evR; omega)
            clear ha0 g0 g1 g2
            go_wp2_with fail
            go_quiet (fail)
            go_wp2_with fail
            go_ret
            exact ⟨rfl, by have := HW.out; (repeat' (first | assumption | exact Below.refl _ _ | exact Below.size (by assumption) | (refine Below.setCell ?_ ?_ _) | (refine Below.alloc ?_ ?_ _) | (refine Below.drew ?_) | (refine below_drewN ?_ _) | (refine Below.trans ?_ (Below.mono ‹Below _ _ _› ?_)) | omega | (simp; done) | (simp; omega) | (simp at *; omega)))⟩
          · have t3 : decide ((10000 : Int) < t) = false := decide_eq_false g2
            by_cases g3 : pk < 1
            · have t4 : decide (pk < (1 : Int)) = true := decide_eq_true g3
              obtain rfl : rb = false := HBAD.out (by unfold evR; omega)
              clear ha0 g0 g1 g2 g3
              go_wp2_with fail
              go_quiet (fail)
              go_wp2_with fail
              go_ret
              exact ⟨rfl, by have := HW.out; (repeat' (first | assumption | exact Below.refl _ _ | exact Below.size (by assumption) | (refine Below.setCell ?_ ?_ _) | (refine Below.alloc ?_ ?_ _) | (refine Below.drew ?_) | (refine below_drewN ?_ _) | (refine Below.trans ?_ (Below.mono ‹Below _ _ _› ?_)) | omega | (simp; done) | (simp; omega) | (simp at *; omega)))⟩
            · have t4 : decide (pk < (1 : Int)) = false := decide_eq_false g3
              by_cases g4 : 1125899906842624 < pk
              · have t5 : decide ((1125899906842624 : Int) < pk) = true := decide_eq_true g4
                obtain rfl : rb = false := HBAD.out (by unfold evR; omega)
                clear ha0 g0 g1 g2 g3 g4
                go_wp2_with fail
                go_quiet (fail)
                go_wp2_with fail
                go_ret
                exact ⟨rfl, by have := HW.out; (repeat' (first | assumption | exact Below.refl _ _ | exact Below.size (by assumption) | (refine Below.setCell ?_ ?_ _) | (refine Below.alloc ?_ ?_ _) | (refine Below.drew ?_) | (refine below_drewN ?_ _) | (refine Below.trans ?_ (Below.mono ‹Below _ _ _› ?_)) | omega | (simp; done) | (simp; omega) | (simp at *; omega)))⟩
              · have t5 : decide ((1125899906842624 : Int) < pk) = false := decide_eq_false g4
                by_cases g5 : tt < pk
                · have t6 : decide (tt < pk) = true := decide_eq_true g5
                  obtain rfl : rb = false := HBAD.out (by unfold evR; omega)
                  clear ha0 g0 g1 g2 g3 g4 g5
                  go_wp2_with fail
                  go_quiet (fail)
                  go_wp2_with fail
                  go_ret
                  exact ⟨rfl, by have := HW.out; (repeat' (first | assumption | exact Below.refl _ _ | exact Below.size (by assumption) | (refine Below.setCell ?_ ?_ _) | (refine Below.alloc ?_ ?_ _) | (refine Below.drew ?_) | (refine below_drewN ?_ _) | (refine Below.trans ?_ (Below.mono ‹Below _ _ _› ?_)) | omega | (simp; done) | (simp; omega) | (simp at *; omega)))⟩
                · have t6 : decide (tt < pk) = false := decide_eq_false g5
                  by_cases g6 : 1152921504606846976 < tt
                  · have t7 : decide ((1152921504606846976 : Int) < tt) = true := decide_eq_true g6
                    obtain rfl : rb = false := HBAD.out (by unfold evR; omega)
                    clear ha0 g0 g1 g2 g3 g4 g5 g6
                    go_wp2_with fail
                    go_quiet (fail)
                    go_wp2_with fail
                    go_ret
                    exact ⟨rfl, by have := HW.out; (repeat' (first | assumption | exact Below.refl _ _ | exact Below.size (by assumption) | (refine Below.setCell ?_ ?_ _) | (refine Below.alloc ?_ ?_ _) | (refine Below.drew ?_) | (refine below_drewN ?_ _) | (refine Below.trans ?_ (Below.mono ‹Below _ _ _› ?_)) | omega | (simp; done) | (simp; omega) | (simp at *; omega)))⟩
                  · have t7 : decide ((1152921504606846976 : Int) < tt) = false := decide_eq_false g6
                    obtain ⟨d, hd⟩ : ∃ z, z = t - f := ⟨_, rfl⟩
                    obtain ⟨m, hm⟩ : ∃ z, z = tt - 1 := ⟨_, rfl⟩
                    obtain ⟨q, hq⟩ : ∃ z, z = m / d := ⟨_, rfl⟩
                    have hpd := steps_div (tot := tt) (pk := pk) (d := d) (q := q) (by omega) (by omega) (by rw [hq, hm])
                    have q0 : 0 ≤ q := by rw [hq]; exact Int.ediv_nonneg (by omega) (by omega)
                    have q1 : q ≤ m := by rw [hq]; exact Int.ediv_le_self d (by omega)
                    have y1 : Int.tdiv m d = q := by rw [hq]; exact Int.tdiv_eq_ediv_of_nonneg (by omega)
                    have y2 : IntKind.i64.wrap q = q := by rw [IntKind.wrap_i64]; omega
                    have y3 : IntKind.i64.wrap (tt - 1) = m := by rw [IntKind.wrap_i64, hm]; omega
                    have y4 : IntKind.i64.wrap (t - f) = d := by rw [IntKind.wrap_i64, hd]; omega
                    have y5 : ¬ d = 0 := by omega
                    have y6 : decide (d = 0) = false := decide_eq_false y5
                    clear hq hm
                    by_cases z1 : pk ≤ q
                    · have v1 : decide (pk ≤ q) = true := decide_eq_true z1
                      obtain rfl : rb = false := HBAD.out (by unfold evR; intro h; rw [← hd] at h; exact hpd.1 z1 h.2.2.2.2.2.2.2)
                      clear ha0 g0 g1 g2 g3 g4 g5 g6 hpd q0 q1 z1 hd
                      go_wp2_with fail
                      go_quiet (fail)
                      go_wp2_with fail
                      go_ret
                      exact ⟨rfl, by have := HW.out; (repeat' (first | assumption | exact Below.refl _ _ | exact Below.size (by assumption) | (refine Below.setCell ?_ ?_ _) | (refine Below.alloc ?_ ?_ _) | (refine Below.drew ?_) | (refine below_drewN ?_ _) | (refine Below.trans ?_ (Below.mono ‹Below _ _ _› ?_)) | omega | (simp; done) | (simp; omega) | (simp at *; omega)))⟩
                    · have v1 : decide (pk ≤ q) = false := decide_eq_false z1
                      have hz : tt ≤ pk * d := Classical.byContradiction fun h => z1 (hpd.2 h)
                      have HG2 : Hid (∀ j, j < i' → evRight E j) := HGOOD.out (by unfold evR; rw [← hd]; refine ⟨?_, ?_, ?_, ?_, ?_, ?_, ?_, hz⟩ <;> omega)
                      clear hz
                      clear ha0 g0 g1 g2 g3 g4 g5 g6 hpd q0 q1 z1 hd
                      go_wp2_with fail
                      go_quiet (fail)
                      go_wp2_with fail
                      go_roundw
                      case rel => exact ⟨i', HI', HG2, HU.out, rfl, by have := HW.out; (repeat' (first | assumption | exact Below.refl _ _ | exact Below.size (by assumption) | (refine Below.setCell ?_ ?_ _) | (refine Below.alloc ?_ ?_ _) | (refine Below.drew ?_) | (refine below_drewN ?_ _) | (refine Below.trans ?_ (Below.mono ‹Below _ _ _› ?_)) | omega | (simp; done) | (simp; omega) | (simp at *; omega)))⟩
                      case measure => exact HMS.out
    · have hin : i = n := by have := Hi.out; omega
      have T0 : decide ((i : Int) < (n : Int)) = false := by simp <;> omega
      have T0' : decide (i < n) = false := decide_eq_false hlt
      obtain rfl : rb = true := HR.out.2 ⟨by have := H40.out; omega, by rw [← hin]; exact HG.out⟩
      clear hlt hin
      go_wp2_with fail
      go_ret
      exact ⟨rfl, by have := HW.out; (repeat' (first | assumption | exact Below.refl _ _ | exact Below.size (by assumption) | (refine Below.setCell ?_ ?_ _) | (refine Below.alloc ?_ ?_ _) | (refine Below.drew ?_) | (refine below_drewN ?_ _) | (refine Below.trans ?_ (Below.mono ‹Below _ _ _› ?_)) | omega | (simp; done) | (simp; omega) | (simp at *; omega)))⟩
end Go.Proofs.YtfgakaielfekoaaGreatDoor

namespace Go.Proofs.YtfgakaielfekoaaGreatDoor
open Go.RowKit
set_option linter.unusedVariables false
set_option linter.unusedSimpArgs false

def ints (C : Nat → Int) (n : Nat) : List Value := (List.range n).map fun k => .int .i64 (C k)
theorem ints_succ (C : Nat → Int) (n : Nat) : ints C (n + 1) = ints C n ++ [.int .i64 (C n)] := by unfold ints; rw [List.range_succ, List.map_append]; rfl
theorem ints_at (C : Nat → Int) {n k : Nat} (h : k < n) : (ints C n)[k]? = some (.int .i64 (C k)) := by simp [ints, h]
def IMem (w wr : World) (u : Value) (N : Nat) (C : Nat → Int) : Prop := wr.ownsRow w.heap.size 3 1 u N (ints C N) ∧ Below w.heap.size w wr
theorem IMem.call {w wr w' : World} {u : Value} {N : Nat} {C : Nat → Int} (h : IMem w wr u N C) (hb : Below wr.heap.size wr w') : IMem w w' u N C := ⟨own_below h.1 hb, below_step h.2 hb⟩
theorem IMem.form {w wr : World} {u : Value} {N : Nat} {C : Nat → Int} (h : IMem w wr u N C) : ∃ A cap, u = .slice A N cap ∧ N ≤ cap := by
  rcases h.1.2 with ⟨hv, h0⟩ | ⟨g, cap, cur, hv, _, _, hnc, _⟩
  · exact ⟨none, 0, by rw [hv, h0], by omega⟩
  · exact ⟨_, cap, hv, hnc⟩
theorem IMem.app {w wr w' : World} {u v : Value} {N : Nat} {C : Nat → Int} (h : IMem w wr u N C) {cs : Array Value} {t : TypeId} (hown : w'.ownsRow w.heap.size 3 1 v (N + 1) (ints C N ++ [.int .i64 (C N)])) (hg : (wr.alloc (.cells cs t)).grownBy w' u.ownBlock) : IMem w w' v (N + 1) C :=
  ⟨by rw [ints_succ]; exact hown, below_own (h.1.alloc _) (h.2.alloc h.2.size _) hg⟩
theorem IMem.int {w wr : World} {A : Option Addr} {N cap : Nat} {C : Nat → Int} (h : IMem w wr (.slice A N cap) N C) (h2 : N ≤ 2000) : IntIn wr A N C := by
  refine ⟨by omega, ?_⟩
  rcases h.1.2 with ⟨hv, h0⟩ | ⟨g, cap', cur, hv, _, _, _, _⟩
  · exact .inl h0
  · injection hv with hA _ _
    subst hA
    refine .inr ⟨g, 0, rfl, (h.1.lt g rfl).2, fun k hk => ?_⟩
    rw [Nat.zero_add]
    exact (h.1.cellAt k (by omega)).trans (ints_at C hk)
theorem evc_at : ∀ (R : List Sp) {k j : Nat}, k < R.length → j < 4 → (evc R)[k * 4 + j]? = ([.int .i64 ((R.getD k default).f : Int), .int .i64 ((R.getD k default).t : Int), .int .i64 (R.getD k default).s, .int .i64 (R.getD k default).p] : List Value)[j]?
  | [], _, _, h, _ => absurd h (Nat.not_lt_zero _)
  | x :: R, 0, j, _, hj => by
    show (([.int .i64 (x.f : Int), .int .i64 (x.t : Int), .int .i64 x.s, .int .i64 x.p] : List Value) ++ evc R)[0 * 4 + j]? = _
    rw [List.getElem?_append_left (by simp; omega), Nat.zero_mul, Nat.zero_add]
    rfl
  | x :: R, k + 1, j, h, hj => by
    show (([.int .i64 (x.f : Int), .int .i64 (x.t : Int), .int .i64 x.s, .int .i64 x.p] : List Value) ++ evc R)[(k + 1) * 4 + j]? = _
    have e : (k + 1) * 4 + j - 4 = k * 4 + j := by omega
    rw [List.getElem?_append_right (by simp; omega)]
    show (evc R)[(k + 1) * 4 + j - 4]? = _
    rw [e]
    exact evc_at R (by simpa using h) hj
theorem infoI : (Tryz.prog.info? 3).map (fun i => (i.zero, i.size, i.bytes)) = some (some (.int .i64 0), 1, 8) := by kernel_rfl
theorem infoEv : (Tryz.prog.info? 119).map (fun i => (i.zero, i.size, i.bytes)) = some (some (.agg #[.int .i64 0, .int .i64 0, .int .i64 0, .int .i64 0]), 4, 32) := by kernel_rfl
theorem h63_o {n : Nat} (h : n ≤ 2000) : n + 1 ≤ maxLen := by simp only [maxLen]; omega
theorem hby_i {n : Nat} (h : n ≤ 2000) : (n + 1) * 8 ≤ 140737488355328 := by omega
theorem hby_e {n : Nat} (h : n ≤ 2000) : (n + 1) * 32 ≤ 140737488355328 := by omega
def EMem (w wr : World) (u : Value) (N : Nat) (R : List Sp) : Prop := wr.ownsRow w.heap.size 119 4 u N (evc R) ∧ N = R.length ∧ Below w.heap.size w wr
theorem EMem.nil (w wr : World) (h : Below w.heap.size w wr) : EMem w wr (.slice none 0 0) 0 [] := ⟨World.ownsRow_nil _ _ _ _, rfl, h⟩
theorem EMem.call {w wr w' : World} {u : Value} {N : Nat} {R : List Sp} (h : EMem w wr u N R) (hb : Below wr.heap.size wr w') : EMem w w' u N R := ⟨own_below h.1 hb, h.2.1, below_step h.2.2 hb⟩
theorem EMem.form {w wr : World} {u : Value} {N : Nat} {R : List Sp} (h : EMem w wr u N R) : ∃ A cap, u = .slice A N cap ∧ N ≤ cap := by
  rcases h.1.2 with ⟨hv, h0⟩ | ⟨g, cap, cur, hv, _, _, hnc, _⟩
  · exact ⟨none, 0, by rw [hv, h0], by omega⟩
  · exact ⟨_, cap, hv, hnc⟩
theorem EMem.at {w wr : World} {g K cap : Nat} {R : List Sp} {x : Sp} (h : EMem w wr (.slice (some ⟨g, 0, none⟩) (K + 1) cap) (K + 1) (R ++ [x])) (hK : K = R.length) :
    wr.cell? ⟨g, K * 4, none⟩ = some (.int .i64 (x.f : Int)) ∧ wr.cell? ⟨g, K * 4 + 1, none⟩ = some (.int .i64 (x.t : Int)) ∧ wr.cell? ⟨g, K * 4 + 2, none⟩ = some (.int .i64 x.s) ∧ wr.cell? ⟨g, K * 4 + 3, none⟩ = some (.int .i64 x.p) ∧ g < wr.heap.size ∧ ∀ j, wr.frozen? ⟨g, j, none⟩ = false := by
  have key : ∀ j, j < 4 → wr.cell? ⟨g, K * 4 + j, none⟩ = ([.int .i64 (x.f : Int), .int .i64 (x.t : Int), .int .i64 x.s, .int .i64 x.p] : List Value)[j]? := fun j hj => by
    rw [h.1.cellAt (K * 4 + j) (by omega), evc_snoc, List.getElem?_append_right (by rw [evc_len]; omega), evc_len, ← hK]
    congr 1
    omega
  exact ⟨key 0 (by omega), key 1 (by omega), key 2 (by omega), key 3 (by omega), (h.1.lt g rfl).2, fun j => h.1.frozenAt j⟩
theorem set_lastE (L : List Value) (a b c d u1 u2 u3 : Value) : (((L ++ [a, b, c, d]).set (L.length + 1) u1).set (L.length + 2) u2).set (L.length + 3) u3 = L ++ [a, u1, u2, u3] := by
  have h1 : ¬ L.length + 1 < L.length := by omega
  have h2 : ¬ L.length + 2 < L.length := by omega
  have h3 : ¬ L.length + 3 < L.length := by omega
  simp [List.set_append]
theorem EMem.upd {w wr : World} {g K cap : Nat} {R : List Sp} {x y : Sp} (h : EMem w wr (.slice (some ⟨g, 0, none⟩) (K + 1) cap) (K + 1) (R ++ [x])) (hK : K = R.length) (hf : y.f = x.f) :
    EMem w (((wr.setCell ⟨g, K * 4 + 1, none⟩ (.int .i64 (y.t : Int))).setCell ⟨g, K * 4 + 2, none⟩ (.int .i64 y.s)).setCell ⟨g, K * 4 + 3, none⟩ (.int .i64 y.p)) (.slice (some ⟨g, 0, none⟩) (K + 1) cap) (K + 1) (R ++ [y]) := by
  have s1 := h.1.stored (K * 4 + 1) (.int .i64 (y.t : Int))
  have s2 := s1.1.stored (K * 4 + 2) (.int .i64 y.s)
  have s3 := s2.1.stored (K * 4 + 3) (.int .i64 y.p)
  refine ⟨?_, by rw [List.length_append, hK]; rfl, ?_⟩
  · have e := s3.1
    rw [evc_snoc] at e ⊢
    have hl : K * 4 = (evc R).length := by rw [evc_len, hK]
    rw [hl, set_lastE] at e
    rw [hf]
    rw [hl]
    exact e
  · exact below_own s2.1 (below_own s1.1 (below_own h.1 h.2.2 s1.2) s2.2) s3.2
theorem EMem.updE {w wr : World} {g K cap : Nat} {R : List Sp} {x y : Sp} {t s p : Int} (h : EMem w wr (.slice (some ⟨g, 0, none⟩) (K + 1) cap) (K + 1) (R ++ [x])) (hK : K = R.length) (hf : y.f = x.f) (ht : t = (y.t : Int)) (hs : s = y.s) (hp : p = y.p) :
    EMem w (((wr.setCell ⟨g, K * 4 + 1, none⟩ (.int .i64 t)).setCell ⟨g, K * 4 + 2, none⟩ (.int .i64 s)).setCell ⟨g, K * 4 + 3, none⟩ (.int .i64 p)).drew (.slice (some ⟨g, 0, none⟩) (K + 1) cap) (K + 1) (R ++ [y]) := by
  subst ht hs hp
  have e := h.upd hK hf
  exact ⟨e.1.drew, e.2.1, e.2.2.drew⟩
theorem max_pk (p z : Int) : max p z = if p < z then z else p := by split <;> omega
theorem EMem.app {w wr w' : World} {u v : Value} {N : Nat} {R : List Sp} {i : Nat} (h : EMem w wr u N R) {cs : Array Value} {t : TypeId} (hown : w'.ownsRow w.heap.size 119 4 v (N + 1) (evc R ++ [.int .i64 (i : Int), .int .i64 0, .int .i64 0, .int .i64 0])) (hg : (wr.alloc (.cells cs t)).grownBy w' u.ownBlock) : EMem w w' v (N + 1) (R ++ [⟨i, 0, 0, 0⟩]) :=
  ⟨by rw [evc_snoc]; exact hown, by rw [List.length_append, h.2.1]; rfl, below_own (h.1.alloc _) (h.2.2.alloc h.2.2.size _) hg⟩
theorem EMem.ev {w wr : World} {A : Option Addr} {N cap : Nat} {R : List Sp} (h : EMem w wr (.slice A N cap) N R) (h2 : N ≤ 2000) : EvIn wr A N (evsOf R) := by
  refine ⟨by omega, ?_⟩
  rcases h.1.2 with ⟨hv, h0⟩ | ⟨g, cap', cur, hv, _, _, _, _⟩
  · exact .inl h0
  · injection hv with hA _ _
    subst hA
    refine .inr ⟨g, 0, rfl, (h.1.lt g rfl).2, fun k hk => ?_⟩
    have hN := h.2.1
    have key : ∀ j, j < 4 → wr.cell? ⟨g, 0 + k * 4 + j, none⟩ = ([.int .i64 ((R.getD k default).f : Int), .int .i64 ((R.getD k default).t : Int), .int .i64 (R.getD k default).s, .int .i64 (R.getD k default).p] : List Value)[j]? := fun j hj => by
      rw [Nat.zero_add, h.1.cellAt (k * 4 + j) (by omega)]
      exact evc_at R (by omega) hj
    exact ⟨key 0 (by omega), key 1 (by omega), key 2 (by omega), key 3 (by omega)⟩
/-- What spills leaves. -/
def SpPost (w : World) (R : List Sp) (e : Ending) (w' : World) : Prop := ∃ A N cap, e = .returned (.slice A N cap) ∧ N = R.length ∧ N ≤ cap ∧ EvIn w' A N (evsOf R) ∧ Below w.heap.size w w'
theorem EMem.post {w w' : World} {u : Value} {N : Nat} {R : List Sp} (h : EMem w w' u N R) (h2 : N ≤ 2000) : SpPost w R (.returned u) w' := by
  obtain ⟨A, cap, rfl, hc⟩ := h.form
  exact ⟨A, N, cap, rfl, h.2.1, hc, h.ev h2, h.2.2⟩
def psum (f : Nat → Int) : Nat → Int
  | 0 => 0
  | k + 1 => psum f k + f k
theorem psum_bd {f : Nat → Int} : ∀ {n : Nat}, (∀ k, k < n → 0 ≤ f k ∧ f k ≤ 1125899906842624) → 0 ≤ psum f n ∧ psum f n ≤ 1125899906842624 * n
  | 0, _ => ⟨Int.le_refl _, Int.le_refl _⟩
  | n + 1, h => by
    have ih := psum_bd (f := f) (n := n) fun k hk => h k (by omega)
    have := h n (by omega)
    have ic : ((n + 1 : Nat) : Int) = (n : Int) + 1 := by omega
    show 0 ≤ psum f n + f n ∧ psum f n + f n ≤ _
    rw [ic, Int.mul_add]
    omega
theorem psum_sumS (R : List Sp) : psum (evsOf R).Tot R.length = sumS R := by
  have key : ∀ k, k ≤ R.length → psum (evsOf R).Tot k = sumS (R.take k) := by
    intro k
    induction k with
    | zero => intro _; rfl
    | succ k ih =>
      intro h
      rw [List.take_succ_eq_append_getElem (by omega), sumS_app, ← ih (by omega)]
      show psum (evsOf R).Tot k + (R.getD k default).s = psum (evsOf R).Tot k + (R[k].s + 0)
      have : R.getD k default = R[k] := by simp [List.getD, List.getElem?_eq_getElem (show k < R.length by omega)]
      rw [this]
      omega
  rw [key R.length (Nat.le_refl _), List.take_length]
end Go.Proofs.YtfgakaielfekoaaGreatDoor

namespace Go.Proofs.YtfgakaielfekoaaGreatDoor
open Go.RowKit
set_option linter.unusedVariables false
set_option linter.unusedSimpArgs false

set_option maxRecDepth 100000 in
theorem p_vol (z : Int) (f : Bool) (hf : f = decide (z < 0 ∨ 1125899906842624 < z)) (w : World) : Calls Tryz.prog 162 #[.int .i64 z] w fun e w' => e = .returned (.bool f) ∧ Below w.heap.size w w' := by
  subst hf
  by_cases h1 : z < 0
  · have t1 : decide (z < 0) = true := decide_eq_true h1
    rw [decide_eq_true (Or.inl h1)]
    clear h1
    go_enter Tryz.func162, Tryz.ntmps162
    go_wp2_with fail
    go_ret
    exact ⟨rfl, by (repeat' (first | assumption | exact Below.refl _ _ | exact Below.size (by assumption) | (refine Below.setCell ?_ ?_ _) | (refine Below.alloc ?_ ?_ _) | (refine Below.drew ?_) | (refine below_drewN ?_ _) | (refine Below.trans ?_ (Below.mono ‹Below _ _ _› ?_)) | omega | (simp; done) | (simp; omega) | (simp at *; omega)))⟩
  have t1 : decide (z < 0) = false := decide_eq_false h1
  by_cases h2 : 1125899906842624 < z
  · have t2 : decide (1125899906842624 < z) = true := decide_eq_true h2
    rw [decide_eq_true (Or.inr h2)]
    clear h1 h2
    go_enter Tryz.func162, Tryz.ntmps162
    go_wp2_with fail
    go_ret
    exact ⟨rfl, by (repeat' (first | assumption | exact Below.refl _ _ | exact Below.size (by assumption) | (refine Below.setCell ?_ ?_ _) | (refine Below.alloc ?_ ?_ _) | (refine Below.drew ?_) | (refine below_drewN ?_ _) | (refine Below.trans ?_ (Below.mono ‹Below _ _ _› ?_)) | omega | (simp; done) | (simp; omega) | (simp at *; omega)))⟩
  have t2 : decide (1125899906842624 < z) = false := decide_eq_false h2
  rw [decide_eq_false (show ¬ (z < 0 ∨ 1125899906842624 < z) by omega)]
  clear h1 h2
  go_enter Tryz.func162, Tryz.ntmps162
  go_wp2_with fail
  go_ret
  exact ⟨rfl, by (repeat' (first | assumption | exact Below.refl _ _ | exact Below.size (by assumption) | (refine Below.setCell ?_ ?_ _) | (refine Below.alloc ?_ ?_ _) | (refine Below.drew ?_) | (refine below_drewN ?_ _) | (refine Below.trans ?_ (Below.mono ‹Below _ _ _› ?_)) | omega | (simp; done) | (simp; omega) | (simp at *; omega)))⟩
set_option maxRecDepth 100000 in
set_option maxHeartbeats 2000000 in
theorem find_vol (A : Option Addr) (n c k : Nat) (C : Nat → Int) (w : World) (h2 : n ≤ 2000) (ht : IntIn w A n C) (hk : FirstAt (fun j => decide (C j < 0 ∨ 1125899906842624 < C j)) n k) (v : Int) (hv : v = if k < n then (k : Int) else -1) :
    Calls Tryz.prog 197 #[.slice A n c, .func (.func 162) #[] #[]] w fun e w' => e = .returned (.int .i64 v) ∧ Below w.heap.size w w' := by
  have HT := Lib.hid ht
  have HK := Lib.hid hk
  have H2 := Lib.hid h2
  have HV := Lib.hid hv
  clear ht hk h2 hv
  go_enter Tryz.func197, Tryz.ntmps197
  go_wp2_with fail
  go_loopw [8] (fun u wr => ∃ i : Nat, Hid (i ≤ n ∧ i ≤ k) ∧ u = .int .i64 i ∧ Hid (Below w.heap.size w wr)) (fun u _ => n - (RowKit.intOf u).toNat)
  case atStart => exact ⟨0, ⟨Nat.zero_le _, Nat.zero_le _⟩, rfl, Below.refl _ _⟩
  case round =>
    obtain ⟨i, Hi, rfl, HW⟩ := hrel
    by_cases hlt : i < n
    · have T0 : decide ((i : Int) < (n : Int)) = true := by simp <;> omega
      have T0' : decide (i < n) = true := decide_eq_true hlt
      obtain ⟨i', hi'⟩ : ∃ z, z = i + 1 := ⟨_, rfl⟩
      have x0 : IntKind.i64.wrap ((i : Int) + 1) = (i' : Int) := by have := H2.out; rw [IntKind.wrap_i64]; omega
      obtain ⟨b, off, rfl, hb, c0⟩ := (HT.out.below (Nat.le_refl _) HW.out).at hlt

      have k0 : (0 : Int) ≤ (i : Int) := by omega
      have k1 : (i : Int) < (n : Int) := by omega
      have HMS : Hid (n - (RowKit.intOf (Value.int .i64 (i' : Int))).toNat < n - (RowKit.intOf (Value.int .i64 (i : Int))).toNat) := by show _ < _; simp [RowKit.intOf]; omega
      rcases first_at HK.out hlt Hi.out.2 with ⟨hp, hik⟩ | ⟨hp, hik⟩
      · have KK := Lib.hid fun w => (p_vol (C i) true hp.symm w)
        have HR : Hid ((i : Int) = v) := by show (i : Int) = v; rw [HV.out, hik, if_pos (by omega)]
        clear hi' hp hik
        go_wp2_with (first | (go_at_call 162; (with_reducible refine (KK.out _).mono ?_); rintro e w1 ⟨rfl, hb1⟩; obtain ⟨hc1, hf1⟩ := bcell hb1; have hz1 := hb1.size; (try simp at hz1); (try simp only [heap_drew, World.heap_drewN] at hz1); (try simp only [heap_drew, World.heap_drewN] at hc1); (try simp only [heap_drew, World.heap_drewN] at hf1); (try have hs1 := Nat.lt_of_succ_le hz1); (try have hs2 := Nat.lt_of_succ_lt hs1); (try have y0 : w.heap.size < w1.heap.size := by omega); (try have y1 : w.heap.size + 1 < w1.heap.size := by omega); (try have y2 : w.heap.size + 2 < w1.heap.size := by omega)))
        go_ret
        refine ⟨ret_int HR.out, ?_⟩
        have := HW.out
        (repeat' (first | assumption | exact Below.refl _ _ | exact Below.size (by assumption) | (refine Below.setCell ?_ ?_ _) | (refine Below.alloc ?_ ?_ _) | (refine Below.drew ?_) | (refine below_drewN ?_ _) | (refine Below.trans ?_ (Below.mono ‹Below _ _ _› ?_)) | omega | (simp; done) | (simp; omega) | (simp at *; omega)))
      · have KK := Lib.hid fun w => (p_vol (C i) false hp.symm w)
        have HI' : Hid (i' ≤ n ∧ i' ≤ k) := by show _ ∧ _; omega
        clear hi' hp hik
        go_wp2_with (first | (go_at_call 162; (with_reducible refine (KK.out _).mono ?_); rintro e w1 ⟨rfl, hb1⟩; obtain ⟨hc1, hf1⟩ := bcell hb1; have hz1 := hb1.size; (try simp at hz1); (try simp only [heap_drew, World.heap_drewN] at hz1); (try simp only [heap_drew, World.heap_drewN] at hc1); (try simp only [heap_drew, World.heap_drewN] at hf1); (try have hs1 := Nat.lt_of_succ_le hz1); (try have hs2 := Nat.lt_of_succ_lt hs1); (try have y0 : w.heap.size < w1.heap.size := by omega); (try have y1 : w.heap.size + 1 < w1.heap.size := by omega); (try have y2 : w.heap.size + 2 < w1.heap.size := by omega)))
        go_roundw
        case rel => exact ⟨i', HI', rfl, by have := HW.out; (repeat' (first | assumption | exact Below.refl _ _ | exact Below.size (by assumption) | (refine Below.setCell ?_ ?_ _) | (refine Below.alloc ?_ ?_ _) | (refine Below.drew ?_) | (refine below_drewN ?_ _) | (refine Below.trans ?_ (Below.mono ‹Below _ _ _› ?_)) | omega | (simp; done) | (simp; omega) | (simp at *; omega)))⟩
        case measure => exact HMS.out
    · have e : i = n := by have := Hi.out; omega
      have HR : Hid ((-1 : Int) = v) := by show (-1 : Int) = v; rw [HV.out, if_neg (by have := Hi.out; omega)]
      have T0 : decide ((i : Int) < (n : Int)) = false := by simp <;> omega
      have T0' : decide (i < n) = false := decide_eq_false hlt
      clear e hlt
      go_wp2_with fail
      go_ret
      exact ⟨ret_int HR.out, HW.out⟩
theorem has_vol (A : Option Addr) (n c : Nat) (C : Nat → Int) (w : World) (h2 : n ≤ 2000) (ht : IntIn w A n C) (f : Bool) (hf : f = true ↔ ∃ j, j < n ∧ (fun j => decide (C j < 0 ∨ 1125899906842624 < C j)) j = true) :
    Calls Tryz.prog 161 #[.slice A n c, .func (.func 162) #[] #[]] w fun e w' => e = .returned (.bool f) ∧ Below w.heap.size w w' := by
  obtain ⟨k, hk⟩ := first_ex (fun j => decide (C j < 0 ∨ 1125899906842624 < C j)) n
  have hany := first_any hk
  have S := Lib.hid (find_vol A n c k C w h2 ht hk _ rfl)
  by_cases hkn : k < n
  · have hft : f = true := hf.2 (hany.1 hkn)
    rw [if_pos hkn] at S
    have t : decide ((0 : Int) ≤ (k : Int)) = true := decide_eq_true (by omega)
    subst hft
    clear hk hany hkn hf ht h2
    go_enter Tryz.func161, Tryz.ntmps161
    go_wp2_with (first | (go_at_call 197; (with_reducible refine (S.out).mono ?_); rintro e w1 ⟨rfl, hb1⟩; obtain ⟨hc1, hf1⟩ := bcell hb1; have hz1 := hb1.size; (try simp at hz1); (try simp only [heap_drew, World.heap_drewN] at hz1); (try simp only [heap_drew, World.heap_drewN] at hc1); (try simp only [heap_drew, World.heap_drewN] at hf1); (try have hs1 := Nat.lt_of_succ_le hz1); (try have hs2 := Nat.lt_of_succ_lt hs1); (try have y0 : w.heap.size < w1.heap.size := by omega); (try have y1 : w.heap.size + 1 < w1.heap.size := by omega); (try have y2 : w.heap.size + 2 < w1.heap.size := by omega)))
    go_ret
    refine ⟨rfl, ?_⟩
    (repeat' (first | assumption | exact Below.refl _ _ | exact Below.size (by assumption) | (refine Below.setCell ?_ ?_ _) | (refine Below.alloc ?_ ?_ _) | (refine Below.drew ?_) | (refine below_drewN ?_ _) | (refine Below.trans ?_ (Below.mono ‹Below _ _ _› ?_)) | omega | (simp; done) | (simp; omega) | (simp at *; omega)))
  · have hft : f = false := by
      cases f with
      | false => rfl
      | true => exact absurd (hany.2 (hf.1 rfl)) hkn
    rw [if_neg hkn] at S
    subst hft
    clear hk hany hkn hf ht h2
    go_enter Tryz.func161, Tryz.ntmps161
    go_wp2_with (first | (go_at_call 197; (with_reducible refine (S.out).mono ?_); rintro e w1 ⟨rfl, hb1⟩; obtain ⟨hc1, hf1⟩ := bcell hb1; have hz1 := hb1.size; (try simp at hz1); (try simp only [heap_drew, World.heap_drewN] at hz1); (try simp only [heap_drew, World.heap_drewN] at hc1); (try simp only [heap_drew, World.heap_drewN] at hf1); (try have hs1 := Nat.lt_of_succ_le hz1); (try have hs2 := Nat.lt_of_succ_lt hs1); (try have y0 : w.heap.size < w1.heap.size := by omega); (try have y1 : w.heap.size + 1 < w1.heap.size := by omega); (try have y2 : w.heap.size + 2 < w1.heap.size := by omega)))
    go_ret
    refine ⟨rfl, ?_⟩
    (repeat' (first | assumption | exact Below.refl _ _ | exact Below.size (by assumption) | (refine Below.setCell ?_ ?_ _) | (refine Below.alloc ?_ ?_ _) | (refine Below.drew ?_) | (refine below_drewN ?_ _) | (refine Below.trans ?_ (Below.mono ‹Below _ _ _› ?_)) | omega | (simp; done) | (simp; omega) | (simp at *; omega)))
theorem tvolumes (A : Option Addr) (n c : Nat) (C : Nat → Int) (h2 : n ≤ 2000) (hC : ∀ k, k < n → 0 ≤ C k ∧ C k ≤ 1125899906842624) (w : World) (ht : IntIn w A n C) :
    Calls Tryz.prog 125 #[.slice A n c] w fun e w' => e = .returned (.int .i64 0) ∧ Below w.heap.size w w' := by
  have S := Lib.hid (has_vol A n c C w h2 ht false ⟨fun h => (by cases h), fun ⟨j, hj, h⟩ => by have h := of_decide_eq_true h; have := hC j hj; omega⟩)
  clear h2 hC ht
  go_enter Tryz.func125, Tryz.ntmps125
  go_wp2_with (first | (go_at_call 161; (with_reducible refine (S.out).mono ?_); rintro e w1 ⟨rfl, hb1⟩; obtain ⟨hc1, hf1⟩ := bcell hb1; have hz1 := hb1.size; (try simp at hz1); (try simp only [heap_drew, World.heap_drewN] at hz1); (try simp only [heap_drew, World.heap_drewN] at hc1); (try simp only [heap_drew, World.heap_drewN] at hf1); (try have hs1 := Nat.lt_of_succ_le hz1); (try have hs2 := Nat.lt_of_succ_lt hs1); (try have y0 : w.heap.size < w1.heap.size := by omega); (try have y1 : w.heap.size + 1 < w1.heap.size := by omega); (try have y2 : w.heap.size + 2 < w1.heap.size := by omega)))
  go_ret
  refine ⟨rfl, ?_⟩
  (repeat' (first | assumption | exact Below.refl _ _ | exact Below.size (by assumption) | (refine Below.setCell ?_ ?_ _) | (refine Below.alloc ?_ ?_ _) | (refine Below.drew ?_) | (refine below_drewN ?_ _) | (refine Below.trans ?_ (Below.mono ‹Below _ _ _› ?_)) | omega | (simp; done) | (simp; omega) | (simp at *; omega)))
set_option maxHeartbeats 2000000 in
theorem tbig (A : Option Addr) (n c : Nat) (C : Nat → Int) (h20 : n ≤ 20) (hC : ∀ k, k < n → 0 ≤ C k ∧ C k ≤ 1125899906842624) (w : World) (ht : IntIn w A n C) :
    Calls Tryz.prog 126 #[.slice A n c] w fun e w' => e = .returned (.bool false) ∧ Below w.heap.size w w' := by
  have HT := Lib.hid ht
  have H2 := Lib.hid h20
  have HC := Lib.hid hC
  clear ht h20 hC
  go_enter Tryz.func126, Tryz.ntmps126
  go_wp2_with fail
  go_loopw [3, 8] (fun s u wr => ∃ i : Nat, Hid (i ≤ n) ∧ u = .int .i64 i ∧ ∃ z : Int, s = .int .i64 z ∧ Hid (z = psum C i) ∧ Hid (Below w.heap.size w wr)) (fun _ u _ => n - (RowKit.intOf u).toNat)
  case atStart => exact ⟨0, Nat.zero_le _, rfl, 0, rfl, rfl, Below.refl _ _⟩
  case round =>
    obtain ⟨i, Hi, rfl, z, rfl, HZ, HW⟩ := hrel
    by_cases hlt : i < n
    · have T0 : decide ((i : Int) < (n : Int)) = true := by simp <;> omega
      have T0' : decide (i < n) = true := decide_eq_true hlt
      obtain ⟨i', hi'⟩ : ∃ z, z = i + 1 := ⟨_, rfl⟩
      have x0 : IntKind.i64.wrap ((i : Int) + 1) = (i' : Int) := by have := H2.out; rw [IntKind.wrap_i64]; omega
      have HI' : Hid (i' ≤ n) := by show i' ≤ n; omega
      have HMS : Hid (n - (RowKit.intOf (Value.int .i64 (i' : Int))).toNat < n - (RowKit.intOf (Value.int .i64 (i : Int))).toNat) := by show _ < _; simp [RowKit.intOf]; omega
      have k0 : (0 : Int) ≤ (i : Int) := by omega
      have k1 : (i : Int) < (n : Int) := by omega

      obtain ⟨b, off, rfl, hb, c0⟩ := (HT.out.below (Nat.le_refl _) HW.out).at hlt
      have hz := psum_bd (f := C) (n := i) fun k hk => HC.out k (by omega)
      have hc := HC.out i hlt
      rw [← HZ.out] at hz
      have hi20 : (i : Int) ≤ 20 := by have := H2.out; omega
      obtain ⟨z', hz'⟩ : ∃ z', z' = z + C i := ⟨_, rfl⟩
      have x1 : IntKind.i64.wrap (z + C i) = z' := by rw [IntKind.wrap_i64]; omega
      have t1 : decide (1152921504606846976 < z') = false := decide_eq_false (by omega)
      have HZ' : Hid (z' = psum C i') := by show z' = _; rw [hi', hz', HZ.out]; rfl
      clear hi' hz hc hi20 hz' hlt
      go_wp2_with fail
      go_roundw
      case rel => exact ⟨i', HI', rfl, z', rfl, HZ', HW.out⟩
      case measure => exact HMS.out
    · have T0 : decide ((i : Int) < (n : Int)) = false := by simp <;> omega
      have T0' : decide (i < n) = false := decide_eq_false hlt
      have hin : i = n := by have := Hi.out; omega

      clear hin hlt
      go_wp2_with fail
      go_ret
      exact ⟨rfl, HW.out⟩
def LastIs (R : List Sp) (l : Int) : Prop := ∀ M x, R = M ++ [x] → l = (x.t : Int) - 1
theorem last_snoc {M : List Sp} {x : Sp} {l : Int} (h : l = (x.t : Int) - 1) : LastIs (M ++ [x]) l := fun M' x' e => by
  have := List.append_inj' e rfl
  have h2 : x = x' := by simpa using this.2
  rw [← h2]; exact h
set_option maxRecDepth 100000 in
set_option maxHeartbeats 8000000 in
theorem tspills (A : Option Addr) (n c : Nat) (v : Nat → Int) (h20 : n ≤ 20) (hv : ∀ k, k < n → 0 ≤ v k ∧ v k ≤ 1125899906842624) (w : World) (ht : IntIn w A n v) :
    Calls Tryz.prog 127 #[.slice A n c, .int .i64 1] w (SpPost w (runs v n)) := by
  have HT := Lib.hid ht
  have H2 := Lib.hid h20
  have HV := Lib.hid hv
  obtain ⟨SI0, si0, sz0, sz1, sz2⟩ := info_parts1 infoEv
  have SI1 := Lib.hid si0
  have SI2 := Lib.hid sz0
  have SI3 := Lib.hid sz1
  have SI4 := Lib.hid sz2
  clear si0 sz0 sz1 sz2

  clear ht h20 hv
  go_enter Tryz.func127, Tryz.ntmps127
  go_wp2_with fail
  go_loopw [5, 6, 7, 13] (fun o op la u wr => ∃ (i N : Nat) (l : Int) (b : Bool), Hid (i ≤ n) ∧ u = .int .i64 i ∧ op = .bool b ∧ la = .int .i64 l ∧ Hid (b = decide (0 < N)) ∧ Hid (LastIs (runs v i) l) ∧ Hid (EMem w wr o N (runs v i))) (fun _ _ _ u _ => n - (RowKit.intOf u).toNat)
  case atStart => exact ⟨0, 0, 0, false, Nat.zero_le _, rfl, rfl, rfl, rfl, fun M x e => by simp [runs] at e, EMem.nil _ _ (Below.refl _ _)⟩
  case round =>
    obtain ⟨i, N, l, b, Hi, rfl, rfl, rfl, HB, HL, HM⟩ := hrel
    obtain ⟨A8, cap8, h8, hnc⟩ := HM.out.form
    subst h8
    by_cases hlt : i < n
    · have T0 : decide ((i : Int) < (n : Int)) = true := by simp <;> omega
      have T0' : decide (i < n) = true := decide_eq_true hlt
      obtain ⟨i', hi'⟩ : ∃ z, z = i + 1 := ⟨_, rfl⟩
      have x0 : IntKind.i64.wrap ((i : Int) + 1) = (i' : Int) := by have := H2.out; rw [IntKind.wrap_i64]; omega
      have HI' : Hid (i' ≤ n) := by show i' ≤ n; omega
      have HMS : Hid (n - (RowKit.intOf (Value.int .i64 (i' : Int))).toNat < n - (RowKit.intOf (Value.int .i64 (i : Int))).toNat) := by show _ < _; simp [RowKit.intOf]; omega
      have k0 : (0 : Int) ≤ (i : Int) := by omega
      have k1 : (i : Int) < (n : Int) := by omega

      obtain ⟨bv, ov, rfl, hbv, cv⟩ := (HT.out.below (Nat.le_refl _) HM.out.2.2).at hlt
      have hz := HV.out i hlt
      have hgood := runs_good (v := v) (i := i) (by have := H2.out; omega) fun k hk => HV.out k (by omega)
      have hi20 : i ≤ 20 := by have := H2.out; omega
      have HN2 : Hid (N ≤ 2000) := by show N ≤ 2000; rw [HM.out.2.1]; have := hgood.len; omega
      by_cases hz0 : v i = 0
      · have HR : Hid (runs v i' = runs v i) := by show _ = _; rw [hi']; exact runs_zero hz0
        rw [hz0] at cv
        clear hi' hz hgood hz0 hlt hi20
        go_wp2_with fail
        go_roundw
        case rel => exact ⟨i', N, l, b, HI', rfl, rfl, rfl, HB, by show LastIs (runs v i') l; rw [HR.out]; exact HL.out, by show EMem w _ _ N (runs v i'); rw [HR.out]; exact HM.out⟩
        case measure => exact HMS.out
      have t0 : (v i == 0) = false := by simpa using hz0
      obtain ⟨z, hzz⟩ : ∃ z, z = v i := ⟨_, rfl⟩
      rw [← hzz] at cv hz t0 hz0
      have x5 : (0 : Int) + z = z := Int.zero_add z
      have HB1 : Hid (true = decide (0 < N + 1)) := by show _ = _; simp
      have x6 : IntKind.i64.wrap z = z := by rw [IntKind.wrap_i64]; omega
      rcases List.eq_nil_or_concat (runs v i) with e | ⟨M, x, e⟩
      · have hN0 : N = 0 := by rw [HM.out.2.1, e]; rfl
        subst hN0
        obtain rfl : b = false := by rw [HB.out]; rfl
        have HR1 : Hid (runs v i' = runs v i ++ [spNew i z]) := by show _ = _; rw [hi', e, hzz]; exact runs_none (by rw [← hzz]; exact hz0) e
        have HX : Hid ((i' : Int) = ((spNew i z).t : Int)) := by show (i' : Int) = ((i + 1 : Nat) : Int); rw [hi']
        have HL1 : Hid (LastIs (runs v i') (i : Int)) := by show LastIs (runs v i') (i : Int); rw [HR1.out]; exact last_snoc (by show (i : Int) = ((i + 1 : Nat) : Int) - 1; omega)
        have e2 : IntKind.i64.wrap ((0 : Int) + 1 - 1) = (0 : Int) := by have := HN2.out; rw [IntKind.wrap_i64]; omega
        have e3 : IntKind.i64.wrap (0 : Int) = (0 : Int) := by have := HN2.out; rw [IntKind.wrap_i64]; omega
        have hz1 : 0 < z := by omega
        clear hi' hz hgood hz0 hlt hi20 hzz e HB HL 
        go_upto_region 11 with (first
          | (at_builtin; refine wpList_append_own_at _ ?sna (.tmp 30) (.tmp 33) 70 ?snb (w.heap.size) 119 SI0 (.agg #[.int .i64 0, .int .i64 0, .int .i64 0, .int .i64 0]) 4 32 Tryz.underlying70 SI1.out SI2.out SI3.out SI4.out ?snc ?snd (.slice A8 0 cap8) (0) (evc (runs v i)) ?sne (HM.out.1.alloc _) (⟨wr.heap.size, 0, none⟩) (1) (1) ([.int .i64 (i : Int), .int .i64 0, .int .i64 0, .int .i64 0]) ?sng (rfl) (World.news_of_block (cs := #[.int .i64 (i : Int), .int .i64 0, .int .i64 0, .int .i64 0]) (t := 119) (fr := (0, 0)) (heap_alloc_new _ _)) ((by simp [Value.oneCell'])) (h63_o HN2.out) (hby_e HN2.out) (Nat.le_trans HM.out.2.2.size (by simp)) ?snh
             case sna => exact rfl
             case snb => exact rfl
             case snc => exact rfl
             case snd => decide
             case sne => exact rfl
             case sng => exact rfl
             intro v2 w7 hown2 hgrow2 hnil2 hat2
             have HM7 := Lib.hid (HM.out.app hown2 hgrow2)
             obtain ⟨g8, cap8', h8', _, _⟩ := World.ownsRow.form hown2 (by omega)
             subst h8'
             obtain ⟨c4, c5, c6, c7, hg8, hz8⟩ := HM7.out.at HM.out.2.1
             clear hown2 hgrow2 hnil2 hat2))
        have z1 := hz8 (0 * 4 + 1)
        have z2 := hz8 (0 * 4 + 2)
        have z3 := hz8 (0 * 4 + 3)
        clear hz8
        go_region
        go_wp2_with fail
        go_roundw
        case rel =>
          refine ⟨i', 0 + 1, (i : Int), true, HI', rfl, rfl, rfl, HB1, HL1, ?_⟩
          show EMem w _ _ (0 + 1) (runs v i')
          rw [HR1.out]
          exact HM7.out.updE HM.out.2.1 rfl HX.out rfl (by show max 0 z = z; omega)
        case measure => exact HMS.out
      · rw [List.concat_eq_append] at e
        obtain rfl : b = true := by
          rw [HB.out]
          have hN := HM.out.2.1
          rw [e, List.length_append] at hN
          have : (0 : Nat) < N := by rw [hN]; exact Nat.succ_pos _
          exact decide_eq_true this
        have hl := HL.out M x e
        have hxt := (hgood.each x (by rw [e]; simp))
        by_cases ht : x.t = i
        case neg =>
          have HR1 : Hid (runs v i' = runs v i ++ [spNew i z]) := by show _ = _; rw [hi', e, hzz]; exact runs_new (by rw [← hzz]; exact hz0) e ht
          have x7 : IntKind.i64.wrap ((i : Int) - l) = (i : Int) - l := by rw [IntKind.wrap_i64]; omega
          have x8 : IntKind.i64.wrap ((i : Int) - l - 1) = (i : Int) - l - 1 := by rw [IntKind.wrap_i64]; omega
          have t1 : decide (1 ≤ (i : Int) - l - 1) = true := decide_eq_true (by omega)
          have HX : Hid ((i' : Int) = ((spNew i z).t : Int)) := by show (i' : Int) = ((i + 1 : Nat) : Int); rw [hi']
          have HL1 : Hid (LastIs (runs v i') (i : Int)) := by show LastIs (runs v i') (i : Int); rw [HR1.out]; exact last_snoc (by show (i : Int) = ((i + 1 : Nat) : Int) - 1; omega)
          have e2 : IntKind.i64.wrap ((N : Int) + 1 - 1) = (N : Int) := by have := HN2.out; rw [IntKind.wrap_i64]; omega
          have e3 : IntKind.i64.wrap (N : Int) = (N : Int) := by have := HN2.out; rw [IntKind.wrap_i64]; omega
          have hz1 : 0 < z := by omega
          clear hi' hz hgood hz0 hlt hi20 hzz e HB HL hl hxt ht
          go_upto_region 11 with (first
            | (at_builtin; refine wpList_append_own_at _ ?soa (.tmp 30) (.tmp 33) 70 ?sob (w.heap.size) 119 SI0 (.agg #[.int .i64 0, .int .i64 0, .int .i64 0, .int .i64 0]) 4 32 Tryz.underlying70 SI1.out SI2.out SI3.out SI4.out ?soc ?sod (.slice A8 N cap8) (N) (evc (runs v i)) ?soe (HM.out.1.alloc _) (⟨wr.heap.size, 0, none⟩) (1) (1) ([.int .i64 (i : Int), .int .i64 0, .int .i64 0, .int .i64 0]) ?sog (rfl) (World.news_of_block (cs := #[.int .i64 (i : Int), .int .i64 0, .int .i64 0, .int .i64 0]) (t := 119) (fr := (0, 0)) (heap_alloc_new _ _)) ((by simp [Value.oneCell'])) (h63_o HN2.out) (hby_e HN2.out) (Nat.le_trans HM.out.2.2.size (by simp)) ?soh
               case soa => exact rfl
               case sob => exact rfl
               case soc => exact rfl
               case sod => decide
               case soe => exact rfl
               case sog => exact rfl
               intro v2 w7 hown2 hgrow2 hnil2 hat2
               have HM7 := Lib.hid (HM.out.app hown2 hgrow2)
               obtain ⟨g8, cap8', h8', _, _⟩ := World.ownsRow.form hown2 (by omega)
               subst h8'
               obtain ⟨c4, c5, c6, c7, hg8, hz8⟩ := HM7.out.at HM.out.2.1
               clear hown2 hgrow2 hnil2 hat2))
          have z1 := hz8 (N * 4 + 1)
          have z2 := hz8 (N * 4 + 2)
          have z3 := hz8 (N * 4 + 3)
          clear hz8
          go_region
          go_wp2_with fail
          go_roundw
          case rel =>
            refine ⟨i', N + 1, (i : Int), true, HI', rfl, rfl, rfl, HB1, HL1, ?_⟩
            show EMem w _ _ (N + 1) (runs v i')
            rw [HR1.out]
            exact HM7.out.updE HM.out.2.1 rfl HX.out rfl (by show max 0 z = z; omega)
          case measure => exact HMS.out
        obtain ⟨K, hK⟩ : ∃ K, K = M.length := ⟨_, rfl⟩
        have hNK : N = K + 1 := by rw [HM.out.2.1, e, List.length_append, hK]; rfl
        subst hNK
        have HR1 : Hid (runs v i' = M ++ [spOn x i z]) := by show _ = _; rw [hi', hzz]; exact runs_on (by rw [← hzz]; exact hz0) e ht
        have x7 : IntKind.i64.wrap ((i : Int) - l) = (i : Int) - l := by rw [IntKind.wrap_i64]; omega
        have x8 : IntKind.i64.wrap ((i : Int) - l - 1) = (i : Int) - l - 1 := by rw [IntKind.wrap_i64]; omega
        have t1 : decide (1 ≤ (i : Int) - l - 1) = false := decide_eq_false (by omega)
        have hM := HM.out
        rw [e] at hM
        obtain ⟨g8, cap8', h8', _, _⟩ := World.ownsRow.form hM.1 (by omega)
        rw [h8'] at hM
        injection h8' with hA _ hc
        subst hA hc
        obtain ⟨c4, c5, c6, c7, hg8, hz8⟩ := hM.at hK
        have z1 := hz8 (K * 4 + 1)
        have z2 := hz8 (K * 4 + 2)
        have z3 := hz8 (K * 4 + 3)
        have hsum : 0 ≤ x.s ∧ x.s ≤ 22517998136852480 := by
          have h1 := hxt.2.1
          have h2 : 1125899906842624 * ((x.t : Int) - x.f) ≤ 1125899906842624 * 20 := Int.mul_le_mul_of_nonneg_left (by omega) (by omega)
          omega
        have x9 : IntKind.i64.wrap (x.s + z) = x.s + z := by rw [IntKind.wrap_i64]; omega
        have HM9 := Lib.hid hM
        have HK := Lib.hid hK
        have HXS : Hid (x.s + z = (spOn x i z).s) := rfl
        have HXP : Hid ((if x.p < z then z else x.p) = (spOn x i z).p) := rfl
        have HX : Hid ((i' : Int) = ((spOn x i z).t : Int)) := by show (i' : Int) = ((i + 1 : Nat) : Int); rw [hi']
        have HL1 : Hid (LastIs (runs v i') ((i : Int))) := by show LastIs (runs v i') (i : Int); rw [HR1.out]; exact last_snoc (by show (i : Int) = ((i + 1 : Nat) : Int) - 1; omega)
        have e2 : IntKind.i64.wrap ((K : Int) + 1 - 1) = (K : Int) := by have := HN2.out; rw [IntKind.wrap_i64]; omega
        have e3 : IntKind.i64.wrap (K : Int) = (K : Int) := by have := HN2.out; rw [IntKind.wrap_i64]; omega
        have hs' := hsum
        generalize hxs : x.s = s at c6 x9 HXS hs'
        generalize hxp : x.p = p at c7 HXP
        clear hi' hz hgood hz0 hlt hi20 hzz hl hxt ht e hM hK hz8 hsum hxs hxp hs' HB HL
        go_upto_region 11 with fail
        go_region
        go_wp2_with fail
        go_roundw
        case rel =>
          refine ⟨i', K + 1, (i : Int), true, HI', rfl, rfl, rfl, HB1, HL1, ?_⟩
          show EMem w _ _ (K + 1) (runs v i')
          rw [HR1.out]
          exact HM9.out.updE HK.out rfl HX.out HXS.out (by rw [max_pk]; exact HXP.out)
        case measure => exact HMS.out
    · have T0 : decide ((i : Int) < (n : Int)) = false := by simp <;> omega
      have T0' : decide (i < n) = false := decide_eq_false hlt
      have hin : i = n := by have := Hi.out; omega

      have HIN := Lib.hid hin
      have HN2 : Hid (N ≤ 2000) := by show N ≤ 2000; have hgood := runs_good (v := v) (i := i) (by have := H2.out; omega) (fun k hk => HV.out k (by omega)); rw [HM.out.2.1]; have := hgood.len; have := H2.out; omega
      clear hin hlt
      go_wp2_with fail
      go_ret
      have h := HM.out.post HN2.out
      rw [HIN.out] at h
      exact h
end Go.Proofs.YtfgakaielfekoaaGreatDoor

namespace Go.Proofs.YtfgakaielfekoaaGreatDoor
open Go.RowKit
set_option linter.unusedVariables false
set_option linter.unusedSimpArgs false

/-- What Of leaves. -/
def OfPost (w : World) (R : List Sp) (e : Ending) (w' : World) : Prop := ∃ A N cap, e = .returned (.tuple #[.slice A N cap, .int .i64 0]) ∧ N = R.length ∧ N ≤ cap ∧ EvIn w' A N (evsOf R) ∧ Below w.heap.size w w'
theorem below_none {w w' : World} (hg : w.grownBy w' none) : Below w.heap.size w w' := ⟨hg.os, hg.tape, hg.output, hg.size, fun k hk => hg.block k hk (by simp)⟩
theorem tSpills (A : Option Addr) (n c : Nat) (v : Nat → Int) (h20 : n ≤ 20) (hv : ∀ k, k < n → 0 ≤ v k ∧ v k ≤ 1125899906842624) (w : World) (ht : IntIn w A n v) :
    Calls Tryz.prog 80 #[.slice A n c, .int .i64 1] w (OfPost w (runs v n)) := by
  have HT := Lib.hid ht
  have S1 := Lib.hid fun w ht => tvolumes A n c v (by omega) hv w ht
  have S2 := Lib.hid fun w ht => tbig A n c v h20 hv w ht
  have S3 := Lib.hid fun w ht => tspills A n c v h20 hv w ht
  have t1 : decide ((10000 : Int) < (n : Int)) = false := decide_eq_false (by omega)
  have t1' : decide (10000 < n) = false := decide_eq_false (by omega)
  clear ht h20 hv
  go_enter Tryz.func80, Tryz.ntmps80
  go_wp2_with (first
    | (go_at_call 125
       with_reducible refine (S1.out _ ?_).mono ?_
       focus (exact HT.out)
       rintro e w1 ⟨rfl, hb1⟩
       have H1 := Lib.hid hb1
       clear hb1)
    | (go_at_call 126
       with_reducible refine (S2.out _ ?_).mono ?_
       focus (exact HT.out.below (Nat.le_refl _) H1.out)
       rintro e w2 ⟨rfl, hb2⟩
       have H2 := Lib.hid (below_step H1.out hb2)
       clear hb2)
    | (go_at_call 127
       with_reducible refine (S3.out _ ?_).mono ?_
       focus (exact HT.out.below (Nat.le_refl _) H2.out)
       rintro e w3 ⟨A3, N3, cap3, rfl, hN3, hc3, hE3, hb3⟩
       have HN3 := Lib.hid hN3
       have HC3 := Lib.hid hc3
       have HE3 := Lib.hid hE3
       have H3 := Lib.hid (below_step H2.out hb3)
       clear hb3 hN3 hc3 hE3))
  go_ret2
  exact ⟨A3, N3, cap3, rfl, HN3.out, HC3.out, HE3.out, H3.out⟩
set_option maxRecDepth 100000 in
set_option maxHeartbeats 4000000 in
theorem tOf (A : Option Addr) (n c : Nat) (S : Sts) (i : Nat) (h20 : n ≤ 20) (hp : ∀ k, k < n → i < S.PN k ∧ S.PN k ≤ 2000 ∧ 0 ≤ S.P k i ∧ S.P k i ≤ 1125899906842624) (w : World) (ht : StIn w A n S) :
    Calls Tryz.prog 31 #[.slice A n c, .int .i64 (i : Int)] w (OfPost w (runs (fun k => S.P k i) n)) := by
  have HT := Lib.hid ht
  have HP := Lib.hid hp
  have H20 := Lib.hid h20
  have t1 : decide ((10000 : Int) < (n : Int)) = false := decide_eq_false (by omega)
  have t1' : decide (10000 < n) = false := decide_eq_false (by omega)
  have ti : decide ((i : Int) < 0) = false := decide_eq_false (by omega)
  have ki : (0 : Int) ≤ (i : Int) := by omega
  obtain ⟨SI0, si0, sz0, sz1, sz2⟩ := info_parts1 infoI
  have SI1 := Lib.hid si0
  have SI2 := Lib.hid sz0
  have SI3 := Lib.hid sz1
  have SI4 := Lib.hid sz2
  clear si0 sz0 sz1 sz2

  obtain ⟨wm, hrun, hown, hgrow⟩ := run_makeSlice_owned (P := Tryz.prog) (w := w) w.heap.size 46 3 SI0 (.int .i64 0) 1 Tryz.underlying46 SI1.out SI2.out SI3.out .i64 .i64 n (by omega) (by rw [SI4.out]; omega) (by simp only [maxLen]; omega) (Nat.le_refl _)
  have HM0 : Hid (IMem w wm (.slice (some ⟨w.heap.size, 0, none⟩) 0 n) 0 (fun k => S.P k i)) := ⟨hown, below_none hgrow⟩
  have S1 := Lib.hid fun A c w ht => tSpills A n c (fun k => S.P k i) h20 (fun k hk => (hp k hk).2.2) w ht
  clear ht hp h20 hown hgrow
  go_enter Tryz.func31, Tryz.ntmps31
  go_wp2_with fail
  clear hrun
  generalize hfP : (fun k => S.P k i) = fP at HM0 S1 ⊢
  go_loopw [6, 17] (fun o u wr => ∃ j : Nat, Hid (j ≤ n) ∧ u = .int .i64 j ∧ Hid (IMem w wr o j fP)) (fun _ u _ => n - (RowKit.intOf u).toNat)
  case atStart => exact ⟨0, Nat.zero_le _, rfl, HM0.out⟩
  case round =>
    obtain ⟨j, Hi, rfl, HM⟩ := hrel
    obtain ⟨A8, cap8, h8, hnc⟩ := HM.out.form
    subst h8
    by_cases hlt : j < n
    · have T0 : decide ((j : Int) < (n : Int)) = true := by simp <;> omega
      have T0' : decide (j < n) = true := decide_eq_true hlt
      obtain ⟨i', hi'⟩ : ∃ z, z = j + 1 := ⟨_, rfl⟩
      have x0 : IntKind.i64.wrap ((j : Int) + 1) = (i' : Int) := by have := H20.out; rw [IntKind.wrap_i64]; omega
      have HI' : Hid (i' ≤ n) := by show i' ≤ n; omega
      have HMS : Hid (n - (RowKit.intOf (Value.int .i64 (i' : Int))).toNat < n - (RowKit.intOf (Value.int .i64 (j : Int))).toNat) := by show _ < _; simp [RowKit.intOf]; omega
      have k0 : (0 : Int) ≤ (j : Int) := by omega
      have k1 : (j : Int) < (n : Int) := by omega

      obtain ⟨b, off, rfl, hb, hC, hL⟩ := (HT.out.below (Nat.le_refl _) HM.out.2).at hlt
      have hpj := HP.out j hlt
      obtain ⟨bp, op, hA, hbp, cp⟩ := hL.2.1.at (k := i) hpj.1
      have c0 := hC 0 _ rfl
      have c1 := hC 1 _ rfl
      have c2 := hC 2 _ rfl
      have c3 := hC 3 _ rfl
      simp only [Nat.add_zero] at c0
      rw [hA] at c1
      have hfj : S.P j i = fP j := by rw [← hfP]
      rw [hfj] at cp
      have t2 : decide (S.PN j ≤ i) = false := decide_eq_false (by omega)
      have t2' : decide ((S.PN j : Int) ≤ (i : Int)) = false := decide_eq_false (by omega)
      have t3 : decide (i < S.PN j) = true := decide_eq_true (by omega)
      have t3' : decide ((i : Int) < (S.PN j : Int)) = true := decide_eq_true (by omega)
      have t4 : (i : Int) < (S.PN j : Int) := by omega
      have HI1 : Hid (j + 1 = i') := hi'.symm
      have HN2 : Hid (j ≤ 2000) := by show j ≤ 2000; have := H20.out; omega
      clear hi' hC hL hpj hA hfj hlt
      go_upto_region 7 with fail
      have hal : Below wr.heap.size wr (wr.alloc (Obj.cells #[.slice (S.VA j) (S.VN j) (S.VC j), .slice (some ⟨bp, op, none⟩) (S.PN j) (S.PC j), .slice (S.SA j) (S.SN j) (S.SC j), .slice (S.OA j) (S.ON j) (S.OC j)] 49)) := (Below.refl _ wr).alloc (Nat.le_refl _) _
      have HBG := Lib.hid (Blk.new wr 49 #[.slice (S.VA j) (S.VN j) (S.VC j), .slice (some ⟨bp, op, none⟩) (S.PN j) (S.PC j), .slice (S.SA j) (S.SN j) (S.SC j), .slice (S.OA j) (S.ON j) (S.OC j)])
      have HM4 := Lib.hid (HM.out.call hal)
      have cp4 := (hal.cell (p := ⟨bp, op + i, none⟩) hbp).trans cp
      have hbp4 := Nat.lt_of_lt_of_le hbp hal.size
      clear hal c0 c1 c2 c3 cp hbp hb
      generalize wr.alloc (Obj.cells #[.slice (S.VA j) (S.VN j) (S.VC j), .slice (some ⟨bp, op, none⟩) (S.PN j) (S.PC j), .slice (S.SA j) (S.SN j) (S.SC j), .slice (S.OA j) (S.ON j) (S.OC j)] 49) = w4 at HBG HM4 cp4 hbp4 ⊢
      generalize wr.heap.size = G at HBG ⊢
      obtain ⟨s0, s1, s2, s3⟩ := blk4 HBG.out
      have hG := HBG.out.lt
      go_wp2_with (first
        | (at_builtin; refine wpList_append_own_at _ ?ofaa (.tmp 30) (.tmp 36) 46 ?ofab (w.heap.size) 3 SI0 (.int .i64 0) 1 8 Tryz.underlying46 SI1.out SI2.out SI3.out SI4.out ?ofac ?ofad (.slice A8 j cap8) (j) (ints fP j) ?ofae (HM4.out.1.alloc _) (⟨w4.heap.size, 0, none⟩) (1) (1) ([.int .i64 (fP j)]) ?ofag (rfl) (World.news_of_block (cs := #[.int .i64 (fP j)]) (t := 3) (fr := (0, 0)) (heap_alloc_new _ _)) ((by simp [Value.oneCell'])) (h63_o HN2.out) (hby_i HN2.out) (Nat.le_trans HM4.out.2.size (by simp)) ?ofah
           case ofaa => exact rfl
           case ofab => exact rfl
           case ofac => exact rfl
           case ofad => decide
           case ofae => exact rfl
           case ofag => exact rfl
           intro v2 w7 hown2 hgrow2 hnil2 hat2
           have HM7 := Lib.hid (HM4.out.app hown2 hgrow2)
           clear hown2 hgrow2 hnil2 hat2))
      go_roundw
      case rel => exact ⟨i', HI', rfl, by have h := HM7.out; rw [HI1.out] at h; exact h⟩
      case measure => exact HMS.out
    · have T0 : decide ((j : Int) < (n : Int)) = false := by simp <;> omega
      have T0' : decide (j < n) = false := decide_eq_false hlt
      have hin : j = n := by have := Hi.out; omega

      subst hin
      clear hlt
      have HN2 : Hid (j ≤ 2000) := by show j ≤ 2000; have := H20.out; omega
      have HII := Lib.hid (HM.out.int HN2.out)
      go_wp2_with (first
        | (go_at_call 80
           with_reducible refine (S1.out _ _ _ ?_).mono ?_
           focus (exact HII.out)
           rintro e w3 ⟨A3, N3, cap3, rfl, hN3, hc3, hE3, hb3⟩
           have HN3 := Lib.hid hN3
           have HC3 := Lib.hid hc3
           have HE3 := Lib.hid hE3
           have H3 := Lib.hid (below_step HM.out.2 hb3)
           clear hb3 hN3 hc3 hE3))
      go_ret2
      subst hfP
      exact ⟨A3, N3, cap3, rfl, HN3.out, HC3.out, HE3.out, H3.out⟩
/-- What Count leaves at right events. -/
def CntPost (w : World) (n : Nat) (E : Evs) (e : Ending) (w' : World) : Prop := (∃ g : Int, e = .returned (.tuple #[.int .i64 (n : Int), .int .i64 (psum E.Tot n), .int .i64 g, .int .i64 0])) ∧ Below w.heap.size w w'
structure CntOK (n : Nat) (E : Evs) : Prop where
  n20 : n ≤ 20
  right : rightP E n
  sum : ∀ k, k ≤ n → 0 ≤ psum E.Tot k ∧ psum E.Tot k ≤ 1152921504606846976
set_option maxRecDepth 100000 in
set_option maxHeartbeats 4000000 in
theorem tCount (A : Option Addr) (n c : Nat) (E : Evs) (hc : CntOK n E) (w : World) (ht : EvIn w A n E) :
    Calls Tryz.prog 32 #[.slice A n c] w (CntPost w n E) := by
  have HT := Lib.hid ht
  have HC := Lib.hid hc
  have S1 := Lib.hid fun w ht => tright A n c E (by have := hc.n20; omega) w ht true ⟨fun _ => hc.right, fun _ => rfl⟩
  clear ht hc
  go_enter Tryz.func32, Tryz.ntmps32
  go_wp2_with (first
    | (go_at_call 81
       with_reducible refine (S1.out _ ?_).mono ?_
       focus (exact HT.out)
       rintro e w1 ⟨rfl, hb1⟩
       have H1 := Lib.hid hb1
       clear hb1))
  go_loopw [6, 7, 15] (fun s q u wr => ∃ (i : Nat) (z g : Int), Hid (i ≤ n) ∧ u = .int .i64 i ∧ s = .int .i64 z ∧ q = .int .i64 g ∧ Hid (z = psum E.Tot i) ∧ Hid (Below w.heap.size w wr)) (fun _ _ u _ => n - (RowKit.intOf u).toNat)
  case atStart => exact ⟨0, 0, 0, Nat.zero_le _, rfl, rfl, rfl, rfl, H1.out⟩
  case round =>
    obtain ⟨i, z, g, Hi, rfl, rfl, rfl, HZ, HW⟩ := hrel
    by_cases hlt : i < n
    · have T0 : decide ((i : Int) < (n : Int)) = true := by simp <;> omega
      have T0' : decide (i < n) = true := decide_eq_true hlt
      obtain ⟨i', hi'⟩ : ∃ z, z = i + 1 := ⟨_, rfl⟩
      have x0 : IntKind.i64.wrap ((i : Int) + 1) = (i' : Int) := by have := HC.out.n20; rw [IntKind.wrap_i64]; omega
      have HI' : Hid (i' ≤ n) := by show i' ≤ n; omega
      have HMS : Hid (n - (RowKit.intOf (Value.int .i64 (i' : Int))).toNat < n - (RowKit.intOf (Value.int .i64 (i : Int))).toNat) := by show _ < _; simp [RowKit.intOf]; omega
      have k0 : (0 : Int) ≤ (i : Int) := by omega
      have k1 : (i : Int) < (n : Int) := by omega

      obtain ⟨b, off, rfl, hb, c0, c1, c2, c3⟩ := (HT.out.below (Nat.le_refl _) HW.out).at hlt
      have h1 := HC.out.sum i (by omega)
      have h2 := HC.out.sum (i + 1) hlt
      rw [show psum E.Tot (i + 1) = psum E.Tot i + E.Tot i from rfl, ← HZ.out] at h2
      rw [← HZ.out] at h1
      obtain ⟨z', hz'⟩ : ∃ z', z' = z + E.Tot i := ⟨_, rfl⟩
      have x1 : IntKind.i64.wrap (z + E.Tot i) = z' := by rw [IntKind.wrap_i64]; omega
      have t1 : decide (1152921504606846976 < z') = false := decide_eq_false (by omega)
      have HZ' : Hid (z' = psum E.Tot i') := by show z' = _; rw [hi', hz', HZ.out]; rfl
      clear hi' h1 h2 hz' hlt
      go_wp2_with fail
      go_roundw
      case rel => exact ⟨i', z', _, HI', rfl, rfl, rfl, HZ', by have := HW.out; (repeat' (first | assumption | exact Below.refl _ _ | exact Below.size (by assumption) | (refine Below.setCell ?_ ?_ _) | (refine Below.alloc ?_ ?_ _) | (refine Below.drew ?_) | (refine below_drewN ?_ _) | (refine Below.trans ?_ (Below.mono ‹Below _ _ _› ?_)) | omega | (simp; done) | (simp; omega) | (simp at *; omega)))⟩
      case measure => exact HMS.out
    · have T0 : decide ((i : Int) < (n : Int)) = false := by simp <;> omega
      have T0' : decide (i < n) = false := decide_eq_false hlt
      have hin : i = n := by have := Hi.out; omega

      subst hin
      clear hlt
      go_wp2_with fail
      refine bodyPost_ret (v := .tuple #[.int .i64 i, .int .i64 z, .int .i64 g, .int .i64 0]) (by simp [results, Tryz.results32, go_sem]) rfl ⟨⟨g, ?_⟩, HW.out⟩
      rw [HZ.out]
end Go.Proofs.YtfgakaielfekoaaGreatDoor

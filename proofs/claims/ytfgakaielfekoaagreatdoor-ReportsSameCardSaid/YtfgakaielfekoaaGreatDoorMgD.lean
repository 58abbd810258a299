/- Merged texts of these proofs: CalP, PrmP, Run, Ovf, Ovm, Ovs, Ovt. -/
import Derived.Lib.Hide
import Derived.Lib.ItoaNum
import Derived.Test.YtfgakaielfekoaaGreatDoorSto
import Derived.Test.YtfgakaielfekoaaGreatDoorBase
import Derived.Test.YtfgakaielfekoaaGreatDoorNetF
import Derived.BigRegion
import Derived.Test.YtfgakaielfekoaaGreatDoorStp
import Derived.Laws.MakeOwn
namespace Go.Proofs.YtfgakaielfekoaaGreatDoor
open Go.RowKit
set_option linter.unusedVariables false
set_option linter.unusedSimpArgs false

/-- The number of the first day of a year. -/
def yb (y : Int) : Int := 365 * (y - 1) + (y - 1) / 4 - (y - 1) / 100 + (y - 1) / 400 - 730119
def leapP (y : Int) : Prop := (y % 4 = 0 ∧ y % 100 ≠ 0) ∨ y % 400 = 0
instance (y : Int) : Decidable (leapP y) := by unfold leapP; exact inferInstance
theorem yb_lt {y z : Int} (h : y < z) : yb y + 365 ≤ yb z := by unfold yb; omega
theorem yb_le {y z : Int} (h : y ≤ z) : yb y ≤ yb z := by
  rcases Int.lt_or_eq_of_le h with h | rfl
  · have := yb_lt h; omega
  · exact Int.le_refl _
/-- A day lies in a year. -/
structure YearIs (d y : Int) : Prop where
  lo : 1 ≤ y
  hi : y ≤ 9999
  a : yb y ≤ d
  b : d < yb (y + 1)
theorem YearIs.uniq {d y z : Int} (h : YearIs d y) (g : YearIs d z) : y = z := by
  rcases Int.lt_trichotomy y z with k | k | k
  · have := yb_le (show y + 1 ≤ z by omega); have := h.b; have := g.a; omega
  · exact k
  · have := yb_le (show z + 1 ≤ y by omega); have := g.b; have := h.a; omega
theorem YearIs.mono {d e y z : Int} (h : YearIs d y) (g : YearIs e z) (hd : d ≤ e) : y ≤ z := by
  rcases Int.lt_or_le z y with k | k
  · have := yb_le (show z + 1 ≤ y by omega); have := g.b; have := h.a; omega
  · exact k
theorem yb_1 : yb 1 = -730119 := by decide
def InstP (t : Int) : Prop := -68719476736 ≤ t ∧ t ≤ 68719476736
instance (t : Int) : Decidable (InstP t) := by unfold InstP; exact inferInstance
/-- What the year of an instant is: the year and the error. -/
inductive TimeIs (t : Int) : Int → Int → Prop
  | range (h : ¬ InstP t) : TimeIs t 0 2
  | time (h : InstP t) (h2 : t / 86400 < -730119) : TimeIs t 0 20
  | ok {y : Int} (h : InstP t) (h2 : YearIs (t / 86400) y) : TimeIs t y 0
theorem TimeIs.uniq {t y e y' e' : Int} (h : TimeIs t y e) (h' : TimeIs t y' e') : y = y' ∧ e = e' := by
  cases h <;> cases h'
  · exact ⟨rfl, rfl⟩
  · contradiction
  · contradiction
  · contradiction
  · exact ⟨rfl, rfl⟩
  · rename_i h h2 h3 h4
    have := h4.a; have := yb_le h4.lo; rw [yb_1] at this; omega
  · contradiction
  · rename_i h h2 h3 h4
    have := h2.a; have := yb_le h2.lo; rw [yb_1] at this; omega
  · rename_i h h2 h3 h4
    exact ⟨h2.uniq h4, rfl⟩
theorem TimeIs.lo {t y : Int} (h : TimeIs t y 0) : 1 ≤ y := by
  cases h
  rename_i h h2
  exact h2.lo
theorem TimeIs.mono {t u y z : Int} (h : TimeIs t y 0) (g : TimeIs u z 0) (ht : t ≤ u) : y ≤ z := by
  cases h; cases g
  rename_i a b c d
  exact b.mono d (Int.ediv_le_ediv (by omega) ht)

/-- How many of the first n years are y. -/
def cnt (Y : Nat → Int) (y : Int) : Nat → Nat
  | 0 => 0
  | n + 1 => cnt Y y n + (if Y n = y then 1 else 0)
/-- The sum of the totals of year y. -/
def sm (Y T : Nat → Int) (y : Int) : Nat → Int
  | 0 => 0
  | n + 1 => sm Y T y n + (if Y n = y then T n else 0)
/-- A year begins at place i. -/
def newAt (Y : Nat → Int) (i : Nat) : Prop := i = 0 ∨ Y i ≠ Y (i - 1)
instance (Y : Nat → Int) (i : Nat) : Decidable (newAt Y i) := by unfold newAt; exact inferInstance
/-- The years, each once, in the order in which they come. -/
def keysTo (Y : Nat → Int) : Nat → List Int
  | 0 => []
  | n + 1 => if newAt Y n then keysTo Y n ++ [Y n] else keysTo Y n
def Asc (Y : Nat → Int) (n : Nat) : Prop := ∀ i j, i ≤ j → j < n → Y i ≤ Y j
/-- The findings of a kind over a list of years. -/
def manyL (Y : Nat → Int) (N : Nat) (ev : Int) (K : List Int) : List Int := K.filter fun y => decide (ev < (cnt Y y N : Int))
def muchL (Y T : Nat → Int) (N : Nat) (tot : Int) (K : List Int) : List Int := K.filter fun y => decide (tot < sm Y T y N)
def greatL (T : Nat → Int) (vol : Int) : Nat → List Int
  | 0 => []
  | n + 1 => greatL T vol n ++ (if vol < T n then [(n : Int)] else [])
/-- All findings: kinds and numbers. -/
def finds (Y T : Nat → Int) (N : Nat) (ev vol tot : Int) : List (Int × Int) :=
  (manyL Y N ev (keysTo Y N)).map (fun y => (1, y)) ++ (greatL T vol N).map (fun y => (2, y)) ++ (muchL Y T N tot (keysTo Y N)).map (fun y => (3, y))
end Go.Proofs.YtfgakaielfekoaaGreatDoor

namespace Go.Proofs.YtfgakaielfekoaaGreatDoor
open Go.RowKit
set_option linter.unusedVariables false
set_option linter.unusedSimpArgs false

/-- Events. -/
structure Evs where
  F : Nat → Int
  To : Nat → Int
  Tot : Nat → Int
  Pk : Nat → Int
def lastTo (E : Evs) : Nat → Int
  | 0 => 0
  | i + 1 => E.To i
/-- One event is right, behind an end. -/
def evR (a f t tot pk : Int) : Prop := a ≤ f ∧ f < t ∧ t ≤ 10000 ∧ 1 ≤ pk ∧ pk ≤ 1125899906842624 ∧ pk ≤ tot ∧ tot ≤ 1152921504606846976 ∧ tot ≤ pk * (t - f)
instance (a f t tot pk : Int) : Decidable (evR a f t tot pk) := by unfold evR; exact inferInstance
def evRight (E : Evs) (i : Nat) : Prop := evR (lastTo E i) (E.F i) (E.To i) (E.Tot i) (E.Pk i)
def rightP (E : Evs) (n : Nat) : Prop := n ≤ 10000 ∧ ∀ i, i < n → evRight E i
theorem rightP.to_nn {E : Evs} {n : Nat} (h : rightP E n) : ∀ i, i ≤ n → 0 ≤ lastTo E i := by
  intro i hi
  induction i with
  | zero => exact Int.le_refl _
  | succ k ih =>
    have h1 := ih (by omega)
    have h2 := h.2 k (by omega)
    unfold evRight evR at h2
    show 0 ≤ E.To k
    omega
theorem rightP.bounds {E : Evs} {n i : Nat} (h : rightP E n) (hi : i < n) : 0 ≤ E.F i ∧ E.F i < E.To i ∧ E.To i ≤ 10000 ∧ 1 ≤ E.Tot i ∧ E.Tot i ≤ 1152921504606846976 := by
  have h1 := h.to_nn i (by omega)
  have h2 := h.2 i hi
  unfold evRight evR at h2
  omega
def limR (ev vol tot : Int) : Prop := 0 ≤ ev ∧ ev ≤ 10000 ∧ 0 ≤ vol ∧ vol ≤ 576460752303423488 ∧ 0 ≤ tot ∧ tot ≤ 576460752303423488
instance (ev vol tot : Int) : Decidable (limR ev vol tot) := by unfold limR; exact inferInstance

end Go.Proofs.YtfgakaielfekoaaGreatDoor

namespace Go.Proofs.YtfgakaielfekoaaGreatDoor
open Go.RowKit
set_option linter.unusedVariables false
set_option linter.unusedSimpArgs false

/-- A spill: from, to, sum, peak. -/
structure Sp where
  f : Nat
  t : Nat
  s : Int
  p : Int
instance : Inhabited Sp := ⟨⟨0, 0, 0, 0⟩⟩
def evc (L : List Sp) : List Value := L.flatMap fun x => [.int .i64 (x.f : Int), .int .i64 (x.t : Int), .int .i64 x.s, .int .i64 x.p]
theorem evc_snoc (L : List Sp) (x : Sp) : evc (L ++ [x]) = evc L ++ [.int .i64 (x.f : Int), .int .i64 (x.t : Int), .int .i64 x.s, .int .i64 x.p] := by
  unfold evc; rw [List.flatMap_append]; rfl
theorem evc_len (L : List Sp) : (evc L).length = L.length * 4 := by
  induction L with
  | nil => rfl
  | cons x L ih => unfold evc at ih ⊢; rw [List.flatMap_cons, List.length_append, ih]; simp; omega
def evsOf (L : List Sp) : Evs := ⟨fun k => ((L.getD k default).f : Int), fun k => ((L.getD k default).t : Int), fun k => (L.getD k default).s, fun k => (L.getD k default).p⟩
end Go.Proofs.YtfgakaielfekoaaGreatDoor

namespace Go.Proofs.YtfgakaielfekoaaGreatDoor
open Go.RowKit
set_option linter.unusedVariables false
set_option linter.unusedSimpArgs false

/-- n events from an address on. -/
def EvAt (w : World) (b off n : Nat) (E : Evs) : Prop := b < w.heap.size ∧ ∀ k, k < n → w.cell? ⟨b, off + k * 4, none⟩ = some (.int .i64 (E.F k)) ∧ w.cell? ⟨b, off + k * 4 + 1, none⟩ = some (.int .i64 (E.To k)) ∧ w.cell? ⟨b, off + k * 4 + 2, none⟩ = some (.int .i64 (E.Tot k)) ∧ w.cell? ⟨b, off + k * 4 + 3, none⟩ = some (.int .i64 (E.Pk k))
theorem EvAt.below {w w' : World} {B b off n : Nat} {E : Evs} (h : EvAt w b off n E) (hb : Below B w w') (hB : b < B) : EvAt w' b off n E :=
  ⟨Nat.lt_of_lt_of_le h.1 (Nat.le_trans (Nat.le_refl _) hb.size), fun k hk => by
    obtain ⟨h0, h1, h2, h3⟩ := h.2 k hk
    exact ⟨(hb.cell (p := ⟨b, off + k * 4, none⟩) hB).trans h0, (hb.cell (p := ⟨b, off + k * 4 + 1, none⟩) hB).trans h1, (hb.cell (p := ⟨b, off + k * 4 + 2, none⟩) hB).trans h2, (hb.cell (p := ⟨b, off + k * 4 + 3, none⟩) hB).trans h3⟩⟩
/-- A slice of events, nil perhaps. -/
def EvIn (w : World) (A : Option Addr) (n : Nat) (E : Evs) : Prop := n ≤ 9223372036854775807 ∧ (n = 0 ∨ ∃ b off, A = some ⟨b, off, none⟩ ∧ EvAt w b off n E)
theorem EvIn.below {w w' : World} {B n : Nat} {A : Option Addr} {E : Evs} (h : EvIn w A n E) (hB : w.heap.size ≤ B) (hb : Below B w w') : EvIn w' A n E := by
  refine ⟨h.1, ?_⟩
  rcases h.2 with h0 | ⟨b, off, hA, ht⟩
  · exact .inl h0
  · exact .inr ⟨b, off, hA, ht.below hb (Nat.lt_of_lt_of_le ht.1 hB)⟩
theorem EvIn.take {w : World} {A : Option Addr} {n m : Nat} {E : Evs} (h : EvIn w A n E) (hm : m ≤ n) : EvIn w A m E := by
  refine ⟨Nat.le_trans hm h.1, ?_⟩
  rcases h.2 with h0 | ⟨b, off, hA, ht⟩
  · exact .inl (by omega)
  · exact .inr ⟨b, off, hA, ht.1, fun k hk => ht.2 k (by omega)⟩
/-- The slice's cells at an index, wherever it lies. -/
theorem EvIn.at {w : World} {A : Option Addr} {n k : Nat} {E : Evs} (h : EvIn w A n E) (hk : k < n) : ∃ b off, A = some ⟨b, off, none⟩ ∧ b < w.heap.size ∧ w.cell? ⟨b, off + k * 4, none⟩ = some (.int .i64 (E.F k)) ∧ w.cell? ⟨b, off + k * 4 + 1, none⟩ = some (.int .i64 (E.To k)) ∧ w.cell? ⟨b, off + k * 4 + 2, none⟩ = some (.int .i64 (E.Tot k)) ∧ w.cell? ⟨b, off + k * 4 + 3, none⟩ = some (.int .i64 (E.Pk k)) := by
  rcases h.2 with h0 | ⟨b, off, hA, ht⟩
  · omega
  · exact ⟨b, off, hA, ht.1, ht.2 k hk⟩

end Go.Proofs.YtfgakaielfekoaaGreatDoor

namespace Go.Proofs.YtfgakaielfekoaaGreatDoor
open Go.RowKit
set_option linter.unusedVariables false
set_option linter.unusedSimpArgs false

def ints (C : Nat → Int) (n : Nat) : List Value := (List.range n).map fun k => .int .i64 (C k)
theorem ints_succ (C : Nat → Int) (n : Nat) : ints C (n + 1) = ints C n ++ [.int .i64 (C n)] := by unfold ints; rw [List.range_succ, List.map_append]; rfl
theorem ints_at (C : Nat → Int) {n k : Nat} (h : k < n) : (ints C n)[k]? = some (.int .i64 (C k)) := by simp [ints, h]
def IMem (w wr : World) (u : Value) (N : Nat) (C : Nat → Int) : Prop := wr.ownsRow w.heap.size 3 1 u N (ints C N) ∧ Below w.heap.size w wr
theorem IMem.call {w wr w' : World} {u : Value} {N : Nat} {C : Nat → Int} (h : IMem w wr u N C) (hb : Below wr.heap.size wr w') : IMem w w' u N C := ⟨own_below h.1 hb, below_step h.2 hb⟩
theorem IMem.form {w wr : World} {u : Value} {N : Nat} {C : Nat → Int} (h : IMem w wr u N C) : ∃ A cap, u = .slice A N cap ∧ N ≤ cap := by
  rcases h.1.2 with ⟨hv, h0⟩ | ⟨g, cap, cur, hv, _, _, hnc, _⟩
  · exact ⟨none, 0, by rw [hv, h0], by omega⟩
  · exact ⟨_, cap, hv, hnc⟩
theorem IMem.app {w wr w' : World} {u v : Value} {N : Nat} {C : Nat → Int} (h : IMem w wr u N C) {cs : Array Value} {t : TypeId} (hown : w'.ownsRow w.heap.size 3 1 v (N + 1) (ints C N ++ [.int .i64 (C N)])) (hg : (wr.alloc (.cells cs t)).grownBy w' u.ownBlock) : IMem w w' v (N + 1) C :=
  ⟨by rw [ints_succ]; exact hown, below_own (h.1.alloc _) (h.2.alloc h.2.size _) hg⟩
theorem IMem.int {w wr : World} {A : Option Addr} {N cap : Nat} {C : Nat → Int} (h : IMem w wr (.slice A N cap) N C) (h2 : N ≤ 2000) : IntIn wr A N C := by
  refine ⟨by omega, ?_⟩
  rcases h.1.2 with ⟨hv, h0⟩ | ⟨g, cap', cur, hv, _, _, _, _⟩
  · exact .inl h0
  · injection hv with hA _ _
    subst hA
    refine .inr ⟨g, 0, rfl, (h.1.lt g rfl).2, fun k hk => ?_⟩
    rw [Nat.zero_add]
    exact (h.1.cellAt k (by omega)).trans (ints_at C hk)
theorem evc_at : ∀ (R : List Sp) {k j : Nat}, k < R.length → j < 4 → (evc R)[k * 4 + j]? = ([.int .i64 ((R.getD k default).f : Int), .int .i64 ((R.getD k default).t : Int), .int .i64 (R.getD k default).s, .int .i64 (R.getD k default).p] : List Value)[j]?
  | [], _, _, h, _ => absurd h (Nat.not_lt_zero _)
  | x :: R, 0, j, _, hj => by
    show (([.int .i64 (x.f : Int), .int .i64 (x.t : Int), .int .i64 x.s, .int .i64 x.p] : List Value) ++ evc R)[0 * 4 + j]? = _
    rw [List.getElem?_append_left (by simp; omega), Nat.zero_mul, Nat.zero_add]
    rfl
  | x :: R, k + 1, j, h, hj => by
    show (([.int .i64 (x.f : Int), .int .i64 (x.t : Int), .int .i64 x.s, .int .i64 x.p] : List Value) ++ evc R)[(k + 1) * 4 + j]? = _
    have e : (k + 1) * 4 + j - 4 = k * 4 + j := by omega
    rw [List.getElem?_append_right (by simp; omega)]
    show (evc R)[(k + 1) * 4 + j - 4]? = _
    rw [e]
    exact evc_at R (by simpa using h) hj
def EMem (w wr : World) (u : Value) (N : Nat) (R : List Sp) : Prop := wr.ownsRow w.heap.size 119 4 u N (evc R) ∧ N = R.length ∧ Below w.heap.size w wr
theorem EMem.nil (w wr : World) (h : Below w.heap.size w wr) : EMem w wr (.slice none 0 0) 0 [] := ⟨World.ownsRow_nil _ _ _ _, rfl, h⟩
theorem EMem.call {w wr w' : World} {u : Value} {N : Nat} {R : List Sp} (h : EMem w wr u N R) (hb : Below wr.heap.size wr w') : EMem w w' u N R := ⟨own_below h.1 hb, h.2.1, below_step h.2.2 hb⟩
theorem EMem.form {w wr : World} {u : Value} {N : Nat} {R : List Sp} (h : EMem w wr u N R) : ∃ A cap, u = .slice A N cap ∧ N ≤ cap := by
  rcases h.1.2 with ⟨hv, h0⟩ | ⟨g, cap, cur, hv, _, _, hnc, _⟩
  · exact ⟨none, 0, by rw [hv, h0], by omega⟩
  · exact ⟨_, cap, hv, hnc⟩
theorem EMem.at {w wr : World} {g K cap : Nat} {R : List Sp} {x : Sp} (h : EMem w wr (.slice (some ⟨g, 0, none⟩) (K + 1) cap) (K + 1) (R ++ [x])) (hK : K = R.length) :
    wr.cell? ⟨g, K * 4, none⟩ = some (.int .i64 (x.f : Int)) ∧ wr.cell? ⟨g, K * 4 + 1, none⟩ = some (.int .i64 (x.t : Int)) ∧ wr.cell? ⟨g, K * 4 + 2, none⟩ = some (.int .i64 x.s) ∧ wr.cell? ⟨g, K * 4 + 3, none⟩ = some (.int .i64 x.p) ∧ g < wr.heap.size ∧ ∀ j, wr.frozen? ⟨g, j, none⟩ = false := by
  have key : ∀ j, j < 4 → wr.cell? ⟨g, K * 4 + j, none⟩ = ([.int .i64 (x.f : Int), .int .i64 (x.t : Int), .int .i64 x.s, .int .i64 x.p] : List Value)[j]? := fun j hj => by
    rw [h.1.cellAt (K * 4 + j) (by omega), evc_snoc, List.getElem?_append_right (by rw [evc_len]; omega), evc_len, ← hK]
    congr 1
    omega
  exact ⟨key 0 (by omega), key 1 (by omega), key 2 (by omega), key 3 (by omega), (h.1.lt g rfl).2, fun j => h.1.frozenAt j⟩
theorem max_pk (p z : Int) : max p z = if p < z then z else p := by split <;> omega
theorem EMem.app {w wr w' : World} {u v : Value} {N : Nat} {R : List Sp} {i : Nat} (h : EMem w wr u N R) {cs : Array Value} {t : TypeId} (hown : w'.ownsRow w.heap.size 119 4 v (N + 1) (evc R ++ [.int .i64 (i : Int), .int .i64 0, .int .i64 0, .int .i64 0])) (hg : (wr.alloc (.cells cs t)).grownBy w' u.ownBlock) : EMem w w' v (N + 1) (R ++ [⟨i, 0, 0, 0⟩]) :=
  ⟨by rw [evc_snoc]; exact hown, by rw [List.length_append, h.2.1]; rfl, below_own (h.1.alloc _) (h.2.2.alloc h.2.2.size _) hg⟩
theorem EMem.ev {w wr : World} {A : Option Addr} {N cap : Nat} {R : List Sp} (h : EMem w wr (.slice A N cap) N R) (h2 : N ≤ 2000) : EvIn wr A N (evsOf R) := by
  refine ⟨by omega, ?_⟩
  rcases h.1.2 with ⟨hv, h0⟩ | ⟨g, cap', cur, hv, _, _, _, _⟩
  · exact .inl h0
  · injection hv with hA _ _
    subst hA
    refine .inr ⟨g, 0, rfl, (h.1.lt g rfl).2, fun k hk => ?_⟩
    have hN := h.2.1
    have key : ∀ j, j < 4 → wr.cell? ⟨g, 0 + k * 4 + j, none⟩ = ([.int .i64 ((R.getD k default).f : Int), .int .i64 ((R.getD k default).t : Int), .int .i64 (R.getD k default).s, .int .i64 (R.getD k default).p] : List Value)[j]? := fun j hj => by
      rw [Nat.zero_add, h.1.cellAt (k * 4 + j) (by omega)]
      exact evc_at R (by omega) hj
    exact ⟨key 0 (by omega), key 1 (by omega), key 2 (by omega), key 3 (by omega)⟩
/-- What spills leaves. -/
def SpPost (w : World) (R : List Sp) (e : Ending) (w' : World) : Prop := ∃ A N cap, e = .returned (.slice A N cap) ∧ N = R.length ∧ N ≤ cap ∧ EvIn w' A N (evsOf R) ∧ Below w.heap.size w w'
theorem EMem.post {w w' : World} {u : Value} {N : Nat} {R : List Sp} (h : EMem w w' u N R) (h2 : N ≤ 2000) : SpPost w R (.returned u) w' := by
  obtain ⟨A, cap, rfl, hc⟩ := h.form
  exact ⟨A, N, cap, rfl, h.2.1, hc, h.ev h2, h.2.2⟩
end Go.Proofs.YtfgakaielfekoaaGreatDoor

namespace Go.Proofs.YtfgakaielfekoaaGreatDoor
open Go.RowKit
set_option linter.unusedVariables false
set_option linter.unusedSimpArgs false

end Go.Proofs.YtfgakaielfekoaaGreatDoor

namespace Go.Proofs.YtfgakaielfekoaaGreatDoor
open Go.RowKit
set_option linter.unusedVariables false
set_option linter.unusedSimpArgs false

end Go.Proofs.YtfgakaielfekoaaGreatDoor

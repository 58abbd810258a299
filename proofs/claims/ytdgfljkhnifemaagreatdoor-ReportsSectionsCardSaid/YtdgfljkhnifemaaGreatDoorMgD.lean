/- Merged texts of these proofs: Sto, Stp, CalP, PrmP, Run, Ovf, Ovm, Ovs, Ovt, Rpn, Stg, Stl, Stv, Stw. -/
import Derived.Test.YtdgfljkhnifemaaGreatDoorNetP
import Derived.Test.YtdgfljkhnifemaaGreatDoorMgA
import Derived.Test.YtdgfljkhnifemaaGreatDoorNetQ
import Derived.Lib.Hide
import Derived.Lib.ItoaNum
import Derived.Test.YtdgfljkhnifemaaGreatDoorBase
import Derived.Test.YtdgfljkhnifemaaGreatDoorNetF
import Derived.BigRegion
import Derived.Laws.MakeOwn
import Derived.Test.YtdgfljkhnifemaaGreatDoorMgC
import Derived.Test.YtdgfljkhnifemaaGreatDoorNetH
import Derived.Test.YtdgfljkhnifemaaGreatDoorNetV
namespace Go.Proofs.YtdgfljkhnifemaaGreatDoor
open Go.RowKit
set_option linter.unusedVariables false
set_option linter.unusedSimpArgs false

/-- Bools from an address on. -/
def BoolIn (w : World) (A : Option Addr) (n : Nat) (C : Nat → Bool) : Prop := n ≤ 9223372036854775807 ∧ (n = 0 ∨ ∃ b off, A = some ⟨b, off, none⟩ ∧ b < w.heap.size ∧ ∀ k, k < n → w.cell? ⟨b, off + k, none⟩ = some (.bool (C k)))
theorem BoolIn.below {w w' : World} {B n : Nat} {A : Option Addr} {C : Nat → Bool} (h : BoolIn w A n C) (hB : w.heap.size ≤ B) (hb : Below B w w') : BoolIn w' A n C := by
  refine ⟨h.1, ?_⟩
  rcases h.2 with h0 | ⟨b, off, hA, h1, h2⟩
  · exact .inl h0
  · exact .inr ⟨b, off, hA, Nat.lt_of_lt_of_le h1 hb.size, fun k hk => (hb.cell (p := ⟨b, off + k, none⟩) (Nat.lt_of_lt_of_le h1 hB)).trans (h2 k hk)⟩
theorem BoolIn.at {w : World} {A : Option Addr} {n k : Nat} {C : Nat → Bool} (h : BoolIn w A n C) (hk : k < n) : ∃ b off, A = some ⟨b, off, none⟩ ∧ b < w.heap.size ∧ w.cell? ⟨b, off + k, none⟩ = some (.bool (C k)) := by
  rcases h.2 with h0 | ⟨b, off, hA, h1, h2⟩
  · omega
  · exact ⟨b, off, hA, h1, h2 k hk⟩
structure Sts where
  VA : Nat → Option Addr
  VN : Nat → Nat
  VC : Nat → Nat
  V : Nat → Nat → Int
  PA : Nat → Option Addr
  PN : Nat → Nat
  PC : Nat → Nat
  P : Nat → Nat → Int
  SA : Nat → Option Addr
  SN : Nat → Nat
  SC : Nat → Nat
  S : Nat → Nat → Int
  OA : Nat → Option Addr
  ON : Nat → Nat
  OC : Nat → Nat
  O : Nat → Nat → Bool
def Sts.vals (S : Sts) (k : Nat) : List Value := [.slice (S.VA k) (S.VN k) (S.VC k), .slice (S.PA k) (S.PN k) (S.PC k), .slice (S.SA k) (S.SN k) (S.SC k), .slice (S.OA k) (S.ON k) (S.OC k)]
/-- The lists of a state. -/
def StL (w : World) (S : Sts) (k : Nat) : Prop := IntIn w (S.VA k) (S.VN k) (S.V k) ∧ IntIn w (S.PA k) (S.PN k) (S.P k) ∧ IntIn w (S.SA k) (S.SN k) (S.S k) ∧ BoolIn w (S.OA k) (S.ON k) (S.O k)
theorem StL.below {w w' : World} {B k : Nat} {S : Sts} (h : StL w S k) (hB : w.heap.size ≤ B) (hb : Below B w w') : StL w' S k := ⟨h.1.below hB hb, h.2.1.below hB hb, h.2.2.1.below hB hb, h.2.2.2.below hB hb⟩
def StAt (w : World) (b off n : Nat) (S : Sts) : Prop := b < w.heap.size ∧ ∀ k, k < n → CellsAt w b (off + k * 4) (S.vals k) ∧ StL w S k
def StIn (w : World) (A : Option Addr) (n : Nat) (S : Sts) : Prop := n ≤ 9223372036854775807 ∧ (n = 0 ∨ ∃ b off, A = some ⟨b, off, none⟩ ∧ StAt w b off n S)
theorem StIn.below {w w' : World} {B n : Nat} {A : Option Addr} {S : Sts} (h : StIn w A n S) (hB : w.heap.size ≤ B) (hb : Below B w w') : StIn w' A n S := by
  refine ⟨h.1, ?_⟩
  rcases h.2 with h0 | ⟨b, off, hA, ht⟩
  · exact .inl h0
  · exact .inr ⟨b, off, hA, Nat.lt_of_lt_of_le ht.1 hb.size, fun k hk => ⟨(ht.2 k hk).1.below hb (Nat.lt_of_lt_of_le ht.1 hB), (ht.2 k hk).2.below hB hb⟩⟩
theorem StIn.at {w : World} {A : Option Addr} {n k : Nat} {S : Sts} (h : StIn w A n S) (hk : k < n) : ∃ b off, A = some ⟨b, off, none⟩ ∧ b < w.heap.size ∧ CellsAt w b (off + k * 4) (S.vals k) ∧ StL w S k := by
  rcases h.2 with h0 | ⟨b, off, hA, ht⟩
  · omega
  · exact ⟨b, off, hA, ht.1, ht.2 k hk⟩
/-- The capacity of a right node. -/
def capF (D : Nds) (i : Nat) : Int := if D.Kd i = 3 then 0 else D.SY i (D.SN i - 1)
def stNP (D : Nds) (S : Sts) (k i : Nat) : Prop := (0 ≤ S.V k i ∧ S.V k i ≤ capF D i) ∧ (0 ≤ S.P k i ∧ S.P k i ≤ 1125899906842624) ∧ (D.Kd i = 3 → S.P k i = 0)
def stLP (K : Lks) (S : Sts) (k i : Nat) : Prop := (0 ≤ S.S k i ∧ S.S k i ≤ 1000) ∧ (S.O k i = true → K.Kd i = 4)
/-- A state is valid for a valid network. -/
def stP (D : Nds) (n : Nat) (K : Lks) (m : Nat) (S : Sts) (k : Nat) : Prop := S.VN k = n ∧ S.PN k = n ∧ S.SN k = m ∧ S.ON k = m ∧ (∀ i, i < n → stNP D S k i) ∧ ∀ i, i < m → stLP K S k i
end Go.Proofs.YtdgfljkhnifemaaGreatDoor

namespace Go.Proofs.YtdgfljkhnifemaaGreatDoor
open Go.RowKit
set_option linter.unusedVariables false
set_option linter.unusedSimpArgs false

end Go.Proofs.YtdgfljkhnifemaaGreatDoor

namespace Go.Proofs.YtdgfljkhnifemaaGreatDoor
open Go.RowKit
set_option linter.unusedVariables false
set_option linter.unusedSimpArgs false

/-- The number of the first day of a year. -/
def yb (y : Int) : Int := 365 * (y - 1) + (y - 1) / 4 - (y - 1) / 100 + (y - 1) / 400 - 730119
def leapP (y : Int) : Prop := (y % 4 = 0 ∧ y % 100 ≠ 0) ∨ y % 400 = 0
instance (y : Int) : Decidable (leapP y) := by unfold leapP; exact inferInstance
theorem yb_lt {y z : Int} (h : y < z) : yb y + 365 ≤ yb z := by unfold yb; omega
theorem yb_le {y z : Int} (h : y ≤ z) : yb y ≤ yb z := by
  rcases Int.lt_or_eq_of_le h with h | rfl
  · have := yb_lt h; omega
  · exact Int.le_refl _
/-- A day lies in a year. -/
structure YearIs (d y : Int) : Prop where
  lo : 1 ≤ y
  hi : y ≤ 9999
  a : yb y ≤ d
  b : d < yb (y + 1)
theorem YearIs.uniq {d y z : Int} (h : YearIs d y) (g : YearIs d z) : y = z := by
  rcases Int.lt_trichotomy y z with k | k | k
  · have := yb_le (show y + 1 ≤ z by omega); have := h.b; have := g.a; omega
  · exact k
  · have := yb_le (show z + 1 ≤ y by omega); have := g.b; have := h.a; omega
theorem YearIs.mono {d e y z : Int} (h : YearIs d y) (g : YearIs e z) (hd : d ≤ e) : y ≤ z := by
  rcases Int.lt_or_le z y with k | k
  · have := yb_le (show z + 1 ≤ y by omega); have := g.b; have := h.a; omega
  · exact k
theorem yb_1 : yb 1 = -730119 := by decide
def InstP (t : Int) : Prop := -68719476736 ≤ t ∧ t ≤ 68719476736
instance (t : Int) : Decidable (InstP t) := by unfold InstP; exact inferInstance
/-- What the year of an instant is: the year and the error. -/
inductive TimeIs (t : Int) : Int → Int → Prop
  | range (h : ¬ InstP t) : TimeIs t 0 2
  | time (h : InstP t) (h2 : t / 86400 < -730119) : TimeIs t 0 20
  | ok {y : Int} (h : InstP t) (h2 : YearIs (t / 86400) y) : TimeIs t y 0
theorem TimeIs.uniq {t y e y' e' : Int} (h : TimeIs t y e) (h' : TimeIs t y' e') : y = y' ∧ e = e' := by
  cases h <;> cases h'
  · exact ⟨rfl, rfl⟩
  · contradiction
  · contradiction
  · contradiction
  · exact ⟨rfl, rfl⟩
  · rename_i h h2 h3 h4
    have := h4.a; have := yb_le h4.lo; rw [yb_1] at this; omega
  · contradiction
  · rename_i h h2 h3 h4
    have := h2.a; have := yb_le h2.lo; rw [yb_1] at this; omega
  · rename_i h h2 h3 h4
    exact ⟨h2.uniq h4, rfl⟩
theorem TimeIs.lo {t y : Int} (h : TimeIs t y 0) : 1 ≤ y := by
  cases h
  rename_i h h2
  exact h2.lo
theorem TimeIs.mono {t u y z : Int} (h : TimeIs t y 0) (g : TimeIs u z 0) (ht : t ≤ u) : y ≤ z := by
  cases h; cases g
  rename_i a b c d
  exact b.mono d (Int.ediv_le_ediv (by omega) ht)

/-- The sum of the totals of year y. -/
def sm (Y T : Nat → Int) (y : Int) : Nat → Int
  | 0 => 0
  | n + 1 => sm Y T y n + (if Y n = y then T n else 0)
/-- A year begins at place i. -/
def newAt (Y : Nat → Int) (i : Nat) : Prop := i = 0 ∨ Y i ≠ Y (i - 1)
instance (Y : Nat → Int) (i : Nat) : Decidable (newAt Y i) := by unfold newAt; exact inferInstance
def Asc (Y : Nat → Int) (n : Nat) : Prop := ∀ i j, i ≤ j → j < n → Y i ≤ Y j
end Go.Proofs.YtdgfljkhnifemaaGreatDoor

namespace Go.Proofs.YtdgfljkhnifemaaGreatDoor
open Go.RowKit
set_option linter.unusedVariables false
set_option linter.unusedSimpArgs false

/-- Events. -/
structure Evs where
  F : Nat → Int
  To : Nat → Int
  Tot : Nat → Int
  Pk : Nat → Int
def lastTo (E : Evs) : Nat → Int
  | 0 => 0
  | i + 1 => E.To i
/-- One event is right, behind an end. -/
def evR (a f t tot pk : Int) : Prop := a ≤ f ∧ f < t ∧ t ≤ 10000 ∧ 1 ≤ pk ∧ pk ≤ 1125899906842624 ∧ pk ≤ tot ∧ tot ≤ 1152921504606846976 ∧ tot ≤ pk * (t - f)
instance (a f t tot pk : Int) : Decidable (evR a f t tot pk) := by unfold evR; exact inferInstance
def evRight (E : Evs) (i : Nat) : Prop := evR (lastTo E i) (E.F i) (E.To i) (E.Tot i) (E.Pk i)
def rightP (E : Evs) (n : Nat) : Prop := n ≤ 10000 ∧ ∀ i, i < n → evRight E i
theorem rightP.to_nn {E : Evs} {n : Nat} (h : rightP E n) : ∀ i, i ≤ n → 0 ≤ lastTo E i := by
  intro i hi
  induction i with
  | zero => exact Int.le_refl _
  | succ k ih =>
    have h1 := ih (by omega)
    have h2 := h.2 k (by omega)
    unfold evRight evR at h2
    show 0 ≤ E.To k
    omega
theorem rightP.bounds {E : Evs} {n i : Nat} (h : rightP E n) (hi : i < n) : 0 ≤ E.F i ∧ E.F i < E.To i ∧ E.To i ≤ 10000 ∧ 1 ≤ E.Tot i ∧ E.Tot i ≤ 1152921504606846976 := by
  have h1 := h.to_nn i (by omega)
  have h2 := h.2 i hi
  unfold evRight evR at h2
  omega
def limR (ev vol tot : Int) : Prop := 0 ≤ ev ∧ ev ≤ 10000 ∧ 0 ≤ vol ∧ vol ≤ 576460752303423488 ∧ 0 ≤ tot ∧ tot ≤ 576460752303423488
instance (ev vol tot : Int) : Decidable (limR ev vol tot) := by unfold limR; exact inferInstance

end Go.Proofs.YtdgfljkhnifemaaGreatDoor

namespace Go.Proofs.YtdgfljkhnifemaaGreatDoor
open Go.RowKit
set_option linter.unusedVariables false
set_option linter.unusedSimpArgs false

/-- A spill: from, to, sum, peak. -/
structure Sp where
  f : Nat
  t : Nat
  s : Int
  p : Int
instance : Inhabited Sp := ⟨⟨0, 0, 0, 0⟩⟩
end Go.Proofs.YtdgfljkhnifemaaGreatDoor

namespace Go.Proofs.YtdgfljkhnifemaaGreatDoor
open Go.RowKit
set_option linter.unusedVariables false
set_option linter.unusedSimpArgs false

/-- n events from an address on. -/
def EvAt (w : World) (b off n : Nat) (E : Evs) : Prop := b < w.heap.size ∧ ∀ k, k < n → w.cell? ⟨b, off + k * 4, none⟩ = some (.int .i64 (E.F k)) ∧ w.cell? ⟨b, off + k * 4 + 1, none⟩ = some (.int .i64 (E.To k)) ∧ w.cell? ⟨b, off + k * 4 + 2, none⟩ = some (.int .i64 (E.Tot k)) ∧ w.cell? ⟨b, off + k * 4 + 3, none⟩ = some (.int .i64 (E.Pk k))
theorem EvAt.below {w w' : World} {B b off n : Nat} {E : Evs} (h : EvAt w b off n E) (hb : Below B w w') (hB : b < B) : EvAt w' b off n E :=
  ⟨Nat.lt_of_lt_of_le h.1 (Nat.le_trans (Nat.le_refl _) hb.size), fun k hk => by
    obtain ⟨h0, h1, h2, h3⟩ := h.2 k hk
    exact ⟨(hb.cell (p := ⟨b, off + k * 4, none⟩) hB).trans h0, (hb.cell (p := ⟨b, off + k * 4 + 1, none⟩) hB).trans h1, (hb.cell (p := ⟨b, off + k * 4 + 2, none⟩) hB).trans h2, (hb.cell (p := ⟨b, off + k * 4 + 3, none⟩) hB).trans h3⟩⟩
/-- A slice of events, nil perhaps. -/
def EvIn (w : World) (A : Option Addr) (n : Nat) (E : Evs) : Prop := n ≤ 9223372036854775807 ∧ (n = 0 ∨ ∃ b off, A = some ⟨b, off, none⟩ ∧ EvAt w b off n E)
theorem EvIn.below {w w' : World} {B n : Nat} {A : Option Addr} {E : Evs} (h : EvIn w A n E) (hB : w.heap.size ≤ B) (hb : Below B w w') : EvIn w' A n E := by
  refine ⟨h.1, ?_⟩
  rcases h.2 with h0 | ⟨b, off, hA, ht⟩
  · exact .inl h0
  · exact .inr ⟨b, off, hA, ht.below hb (Nat.lt_of_lt_of_le ht.1 hB)⟩
theorem EvIn.take {w : World} {A : Option Addr} {n m : Nat} {E : Evs} (h : EvIn w A n E) (hm : m ≤ n) : EvIn w A m E := by
  refine ⟨Nat.le_trans hm h.1, ?_⟩
  rcases h.2 with h0 | ⟨b, off, hA, ht⟩
  · exact .inl (by omega)
  · exact .inr ⟨b, off, hA, ht.1, fun k hk => ht.2 k (by omega)⟩
/-- The slice's cells at an index, wherever it lies. -/
theorem EvIn.at {w : World} {A : Option Addr} {n k : Nat} {E : Evs} (h : EvIn w A n E) (hk : k < n) : ∃ b off, A = some ⟨b, off, none⟩ ∧ b < w.heap.size ∧ w.cell? ⟨b, off + k * 4, none⟩ = some (.int .i64 (E.F k)) ∧ w.cell? ⟨b, off + k * 4 + 1, none⟩ = some (.int .i64 (E.To k)) ∧ w.cell? ⟨b, off + k * 4 + 2, none⟩ = some (.int .i64 (E.Tot k)) ∧ w.cell? ⟨b, off + k * 4 + 3, none⟩ = some (.int .i64 (E.Pk k)) := by
  rcases h.2 with h0 | ⟨b, off, hA, ht⟩
  · omega
  · exact ⟨b, off, hA, ht.1, ht.2 k hk⟩

end Go.Proofs.YtdgfljkhnifemaaGreatDoor

namespace Go.Proofs.YtdgfljkhnifemaaGreatDoor
open Go.RowKit
set_option linter.unusedVariables false
set_option linter.unusedSimpArgs false

def ints (C : Nat → Int) (n : Nat) : List Value := (List.range n).map fun k => .int .i64 (C k)
theorem ints_succ (C : Nat → Int) (n : Nat) : ints C (n + 1) = ints C n ++ [.int .i64 (C n)] := by unfold ints; rw [List.range_succ, List.map_append]; rfl
theorem ints_at (C : Nat → Int) {n k : Nat} (h : k < n) : (ints C n)[k]? = some (.int .i64 (C k)) := by simp [ints, h]
def IMem (w wr : World) (u : Value) (N : Nat) (C : Nat → Int) : Prop := wr.ownsRow w.heap.size 3 1 u N (ints C N) ∧ Below w.heap.size w wr
theorem IMem.call {w wr w' : World} {u : Value} {N : Nat} {C : Nat → Int} (h : IMem w wr u N C) (hb : Below wr.heap.size wr w') : IMem w w' u N C := ⟨own_below h.1 hb, below_step h.2 hb⟩
theorem IMem.form {w wr : World} {u : Value} {N : Nat} {C : Nat → Int} (h : IMem w wr u N C) : ∃ A cap, u = .slice A N cap ∧ N ≤ cap := by
  rcases h.1.2 with ⟨hv, h0⟩ | ⟨g, cap, cur, hv, _, _, hnc, _⟩
  · exact ⟨none, 0, by rw [hv, h0], by omega⟩
  · exact ⟨_, cap, hv, hnc⟩
theorem IMem.app {w wr w' : World} {u v : Value} {N : Nat} {C : Nat → Int} (h : IMem w wr u N C) {cs : Array Value} {t : TypeId} (hown : w'.ownsRow w.heap.size 3 1 v (N + 1) (ints C N ++ [.int .i64 (C N)])) (hg : (wr.alloc (.cells cs t)).grownBy w' u.ownBlock) : IMem w w' v (N + 1) C :=
  ⟨by rw [ints_succ]; exact hown, below_own (h.1.alloc _) (h.2.alloc h.2.size _) hg⟩
theorem IMem.int {w wr : World} {A : Option Addr} {N cap : Nat} {C : Nat → Int} (h : IMem w wr (.slice A N cap) N C) (h2 : N ≤ 2000) : IntIn wr A N C := by
  refine ⟨by omega, ?_⟩
  rcases h.1.2 with ⟨hv, h0⟩ | ⟨g, cap', cur, hv, _, _, _, _⟩
  · exact .inl h0
  · injection hv with hA _ _
    subst hA
    refine .inr ⟨g, 0, rfl, (h.1.lt g rfl).2, fun k hk => ?_⟩
    rw [Nat.zero_add]
    exact (h.1.cellAt k (by omega)).trans (ints_at C hk)
theorem infoI : (Tryz.prog.info? 3).map (fun i => (i.zero, i.size, i.bytes)) = some (some (.int .i64 0), 1, 8) := by kernel_rfl
theorem h63_o {n : Nat} (h : n ≤ 2000) : n + 1 ≤ maxLen := by simp only [maxLen]; omega
theorem hby_i {n : Nat} (h : n ≤ 2000) : (n + 1) * 8 ≤ 140737488355328 := by omega
end Go.Proofs.YtdgfljkhnifemaaGreatDoor

namespace Go.Proofs.YtdgfljkhnifemaaGreatDoor
open Go.RowKit
set_option linter.unusedVariables false
set_option linter.unusedSimpArgs false

end Go.Proofs.YtdgfljkhnifemaaGreatDoor

namespace Go.Proofs.YtdgfljkhnifemaaGreatDoor
open Go.RowKit
set_option linter.unusedVariables false
set_option linter.unusedSimpArgs false

end Go.Proofs.YtdgfljkhnifemaaGreatDoor

namespace Go.Proofs.YtdgfljkhnifemaaGreatDoor
open Go.RowKit
set_option linter.unusedVariables false
set_option linter.unusedSimpArgs false

def stsP (D : Nds) (n : Nat) (K : Lks) (m : Nat) (S : Sts) (s : Nat) : Prop := netP D n K m ∧ ∀ k, k < s → stP D n K m S k
def bsx (l : List UInt8) : ByteArray := ⟨l.toArray⟩
def numB (z : Int) : ByteArray := ⟨(Lib.itoa z).toArray⟩
def wLv : ByteArray := ⟨#[108, 101, 118, 101, 108]⟩
/-- Lines and an error, that a call leaves. -/
def LinPost (w : World) (Is : List ByteArray → Int → Prop) (e : Ending) (w' : World) : Prop := ∃ (R : List ByteArray) (er : Int) (A : Option Addr) (N cap : Nat), Is R er ∧ e = .returned (.tuple #[.slice A N cap, .int .i64 er]) ∧ N = R.length ∧ N ≤ cap ∧ StrIn w' A N (fun k => R.getD k ByteArray.empty) ∧ Below w.heap.size w w'
theorem lin_nil {w w' : World} {Is : List ByteArray → Int → Prop} {er : Int} (h : Is [] er) (hb : Below w.heap.size w w') : LinPost w Is (.returned (.tuple #[.slice none 0 0, .int .i64 er])) w' :=
  ⟨[], er, none, 0, 0, h, rfl, rfl, Nat.le_refl _, ⟨by omega, .inl rfl⟩, hb⟩
theorem RMem5.lin {w w1 wr : World} {Is : List ByteArray → Int → Prop} {u : Value} {R : List ByteArray} {N : Nat} (h : RMem5 w1 wr u N R) (hw : Below w.heap.size w w1) (hN : N = R.length) (hb : N ≤ 2000) (hR : Is R 0) : LinPost w Is (.returned (.tuple #[u, .int .i64 0])) wr := by
  rcases h.1.2 with ⟨hv, h0⟩ | ⟨g, cap, cur, hv, _, _, hnc, _⟩
  · exact ⟨R, 0, none, N, 0, hR, by rw [hv, h0], hN, by omega, ⟨by omega, .inl h0⟩, below_step hw h.2⟩
  · have hown := h.1
    rw [hv, hN] at hown
    exact ⟨R, 0, some ⟨g, 0, none⟩, N, cap, hR, by rw [hv], hN, hnc, ⟨by omega, .inr ⟨g, 0, rfl, by rw [hN]; exact str_of_own hown⟩⟩, below_step hw h.2⟩
/-- What valid states give. -/
theorem stsP.node {D : Nds} {n : Nat} {K : Lks} {m : Nat} {S : Sts} {s i : Nat} (h : stsP D n K m S s) (hi : i < n) : ndP D i := (h.1.2.2.1 i hi).1
theorem stsP.vol {D : Nds} {n : Nat} {K : Lks} {m : Nat} {S : Sts} {s k i : Nat} (h : stsP D n K m S s) (hk : k < s) (hi : i < n) : (0 ≤ S.V k i ∧ S.V k i ≤ capF D i) ∧ (0 ≤ S.P k i ∧ S.P k i ≤ 1125899906842624) ∧ i < S.VN k ∧ i < S.PN k := by
  have a := h.2 k hk
  have b := a.2.2.2.2.1 i hi
  exact ⟨b.1, b.2.1, by rw [a.1]; exact hi, by rw [a.2.1]; exact hi⟩
end Go.Proofs.YtdgfljkhnifemaaGreatDoor

namespace Go.Proofs.YtdgfljkhnifemaaGreatDoor
open Go.RowKit
set_option linter.unusedVariables false
set_option linter.unusedSimpArgs false

end Go.Proofs.YtdgfljkhnifemaaGreatDoor

namespace Go.Proofs.YtdgfljkhnifemaaGreatDoor
open Go.RowKit
set_option linter.unusedVariables false
set_option linter.unusedSimpArgs false

end Go.Proofs.YtdgfljkhnifemaaGreatDoor

namespace Go.Proofs.YtdgfljkhnifemaaGreatDoor
open Go.RowKit
set_option linter.unusedVariables false
set_option linter.unusedSimpArgs false

end Go.Proofs.YtdgfljkhnifemaaGreatDoor

namespace Go.Proofs.YtdgfljkhnifemaaGreatDoor
open Go.RowKit
set_option linter.unusedVariables false
set_option linter.unusedSimpArgs false

end Go.Proofs.YtdgfljkhnifemaaGreatDoor

/- Merged texts of these proofs: WideTwo, Piece, PieceTwo, RefA, Cat, Root2, Circ, Circle, RefB, RefC, Val, Floor, Sec, Cap, Area, RefD, Idx, Inv, Least, Most, Ends, RefM, RefN, Invs. -/
import Derived.Test.YtdgfljkhnifemaaGreatDoorMgN
import Derived.RegionCalls
import Derived.RegionTactic
import Derived.Deep.RegionWith
import Derived.Test.YtdgfljkhnifemaaGreatDoorTabTwo
import Derived.LoopTactic
import Derived.Test.YtdgfljkhnifemaaGreatDoorTab
import Derived.Test.YtdgfljkhnifemaaGreatDoorName
import Derived.Maps.AppendAt
import Derived.Deep.AppendLies
import Derived.Laws.OwnMore
import Derived.OwnWalk
import Derived.Deep.CutRange
import Derived.Deep.Cut
import Derived.Test.YtdgfljkhnifemaaGreatDoorCurve
import Derived.BigQuiet
import Derived.Test.YtdgfljkhnifemaaGreatDoorMgB
import Derived.StillTailTactics
namespace Go.Proofs.YtdgfljkhnifemaaGreatDoor
open Go.RowKit
set_option linter.unusedVariables false
set_option linter.unusedSimpArgs false

end Go.Proofs.YtdgfljkhnifemaaGreatDoor

namespace Go.Proofs.YtdgfljkhnifemaaGreatDoor
open Go.RowKit
set_option linter.unusedVariables false
set_option linter.unusedSimpArgs false

/-- Where the search ends: all knots before k are below x, all from k on are not. -/
def SearchAt (n : Nat) (X : Nat → Int) (x : Int) (k : Nat) : Prop := k ≤ n ∧ (∀ j, j < k → X j < x) ∧ (∀ j, k ≤ j → j < n → x ≤ X j)

theorem SearchAt.below {n k m : Nat} {X : Nat → Int} {x : Int} (h : SearchAt n X x k) (hm : m < n) (hx : X m < x) : m < k := by
  apply Nat.lt_of_not_le
  intro hk
  have := h.2.2 m hk hm
  omega
theorem SearchAt.above {n k m : Nat} {X : Nat → Int} {x : Int} (h : SearchAt n X x k) (hx : x ≤ X m) : k ≤ m := by
  apply Nat.le_of_not_lt
  intro hk
  have := h.2.1 m hk
  omega

end Go.Proofs.YtdgfljkhnifemaaGreatDoor

namespace Go.Proofs.YtdgfljkhnifemaaGreatDoor
open Go.RowKit
set_option linter.unusedVariables false
set_option linter.unusedSimpArgs false

end Go.Proofs.YtdgfljkhnifemaaGreatDoor

namespace Go.Proofs.YtdgfljkhnifemaaGreatDoor
open Go.RowKit
set_option linter.unusedVariables false
set_option linter.unusedSimpArgs false

end Go.Proofs.YtdgfljkhnifemaaGreatDoor

namespace Go.Proofs.YtdgfljkhnifemaaGreatDoor
open Go.RowKit
set_option linter.unusedVariables false
set_option linter.unusedSimpArgs false

end Go.Proofs.YtdgfljkhnifemaaGreatDoor

namespace Go.Proofs.YtdgfljkhnifemaaGreatDoor
open Go.RowKit
set_option linter.unusedVariables false
set_option linter.unusedSimpArgs false

/-- The root, rounded up. -/
def csq (n : Nat) : Nat := if Num.isq n * Num.isq n < n then Num.isq n + 1 else Num.isq n
end Go.Proofs.YtdgfljkhnifemaaGreatDoor

namespace Go.Proofs.YtdgfljkhnifemaaGreatDoor.Circ

def cd (S P i : Nat) : Nat := S * i / P
def cw (S P i : Nat) : Nat := Num.isq (4 * cd S P i * (S - cd S P i))
def cs (S P i : Nat) : Nat := cd S P (i + 1) - cd S P i
def ch (S P i : Nat) : Nat := ((cw S P (i + 1) - cw S P i) + (cw S P i - cw S P (i + 1))) / 2
def side (S P i : Nat) : Nat := csq (cs S P i * cs S P i + ch S P i * ch S P i)
def ca (S P : Nat) : Nat → Nat
  | 0 => 0
  | i + 1 => ca S P i + (cw S P i + cw S P (i + 1)) * cs S P i / 2
def cp (S P : Nat) : Nat → Nat
  | 0 => 0
  | i + 1 => cp S P i + 2 * side S P i
set_option linter.unusedVariables false
end Go.Proofs.YtdgfljkhnifemaaGreatDoor.Circ

namespace Go.Proofs.YtdgfljkhnifemaaGreatDoor
open Go.RowKit
set_option linter.unusedVariables false
set_option linter.unusedSimpArgs false

section
variable {w w' : World} {g : Nat} {t : TypeId} {cs : Array Value}
end
def knots (X Y : Nat → Nat) (n : Nat) : List Value := (List.range n).flatMap fun j => [.int .i64 (X j), .int .i64 (Y j)]
end Go.Proofs.YtdgfljkhnifemaaGreatDoor

namespace Go.Proofs.YtdgfljkhnifemaaGreatDoor
open Go.RowKit
set_option linter.unusedVariables false
set_option linter.unusedSimpArgs false

theorem Blk.two {w : World} {g : Nat} {t : TypeId} {a b x y : Value} (h : Blk w g t #[a, b]) : Blk ((w.setCell ⟨g, 0, none⟩ x).setCell ⟨g, 1, none⟩ y) g t #[x, y] := (h.set_ 0 x).set_ 1 y
end Go.Proofs.YtdgfljkhnifemaaGreatDoor

namespace Go.Proofs.YtdgfljkhnifemaaGreatDoor
open Go.RowKit
set_option linter.unusedVariables false
set_option linter.unusedSimpArgs false

end Go.Proofs.YtdgfljkhnifemaaGreatDoor

namespace Go.Proofs.YtdgfljkhnifemaaGreatDoor.Val

/-- The value on the piece from knot k on: the integer below, and the rest. -/
def fl (X Y : Nat → Int) (k : Nat) (x : Int) : Int := Y k + (Y (k + 1) - Y k) * (x - X k) / (X (k + 1) - X k)
def rs (X Y : Nat → Int) (k : Nat) (x : Int) : Int := (Y (k + 1) - Y k) * (x - X k) % (X (k + 1) - X k)
/-- The value of a table whose last knot is m. -/
def val (X Y : Nat → Int) : Nat → Int → Int
  | 0, _ => Y 0
  | m + 1, x => if X (m + 1) ≤ x then Y (m + 1) else if X m ≤ x then fl X Y m x else val X Y m x
def rst (X Y : Nat → Int) : Nat → Int → Int
  | 0, _ => 0
  | m + 1, x => if X (m + 1) ≤ x then 0 else if X m ≤ x then rs X Y m x else rst X Y m x
/-- The knots ascend, the values do not descend. -/
def Asc (X Y : Nat → Int) (m : Nat) : Prop := ∀ k, k < m → X k < X (k + 1) ∧ Y k ≤ Y (k + 1)
theorem Asc.mono {X Y : Nat → Int} {m i j : Nat} (h : Asc X Y m) (hj : j ≤ m) (hij : i ≤ j) : X i ≤ X j ∧ Y i ≤ Y j := by
  induction j with
  | zero => have : i = 0 := by omega
            subst this; exact ⟨Int.le_refl _, Int.le_refl _⟩
  | succ j ih =>
    rcases Nat.lt_or_ge i (j + 1) with h1 | h1
    · have h2 := ih (by omega) (by omega)
      have h3 := h j (by omega)
      omega
    · have : i = j + 1 := by omega
      subst this; exact ⟨Int.le_refl _, Int.le_refl _⟩
theorem Asc.lt {X Y : Nat → Int} {m i j : Nat} (h : Asc X Y m) (hj : j ≤ m) (hij : i < j) : X i < X j := by
  have h1 := h i (by omega)
  have h2 := (h.mono hj (by omega : i + 1 ≤ j)).1
  omega
end Go.Proofs.YtdgfljkhnifemaaGreatDoor.Val

namespace Go.Proofs.YtdgfljkhnifemaaGreatDoor
open Go.RowKit
set_option linter.unusedVariables false
set_option linter.unusedSimpArgs false

end Go.Proofs.YtdgfljkhnifemaaGreatDoor

namespace Go.Proofs.YtdgfljkhnifemaaGreatDoor
open Go.RowKit
set_option linter.unusedVariables false
set_option linter.unusedSimpArgs false

def SecOK (nm : List UInt8) (h p : Int) (na : Nat) (AX AY : Nat → Int) (nc : Nat) (CX CY : Nat → Int) : Prop :=
  nameB nm = true ∧ 1 ≤ h ∧ h ≤ 32768 ∧ 0 ≤ p ∧ p ≤ 1073741824 ∧ CurveOK na AX AY h 1073741824 ∧ CurveOK nc CX CY h 1099511627776
theorem iff_boolOf {b : Bool} {p : Prop} (h : b = boolOf p) : p ↔ b = true := by
  rw [h]; exact ⟨boolOf_true, of_boolOf⟩

set_option maxHeartbeats 1000000 in
theorem cvalid (nm : ByteArray) (h p : Int) (A C : Option Addr) (na ca nc cc : Nat) (AX AY CX CY : Nat → Int) (w : World) (hn : nm.size ≤ maxLen) (hA : TabIn w A na AX AY) (hC : TabIn w C nc CX CY) :
    Calls Tryz.prog 59 #[.agg #[.string nm, .int .i64 h, .int .i64 p, .slice A na ca, .slice C nc cc]] w fun e w' => e = .returned (.bool (boolOf (SecOK nm.data.toList h p na AX AY nc CX CY))) ∧ Below w.heap.size w w' := by
  have SA := Lib.hid fun w ht => ccurve A na ca AX AY h 1073741824 w ht
  have SC := Lib.hid fun w ht => ccurve C nc cc CX CY h 1099511627776 w ht
  have S1 := Lib.hid fun w => disname nm hn w
  obtain ⟨f, hf⟩ : ∃ f, Hid (f = boolOf (SecOK nm.data.toList h p na AX AY nc CX CY)) := ⟨_, rfl⟩
  obtain ⟨ka, hka⟩ : ∃ f, f = boolOf (CurveOK na AX AY h 1073741824) := ⟨_, rfl⟩
  obtain ⟨kc, hkc⟩ : ∃ f, f = boolOf (CurveOK nc CX CY h 1099511627776) := ⟨_, rfl⟩
  obtain ⟨kn, hkn⟩ : ∃ f, f = nameB nm.data.toList := ⟨_, rfl⟩
  rw [← hka] at SA
  rw [← hkc] at SC
  rw [← hkn] at S1
  rw [← hf.out]
  have HKA := Lib.hid (iff_boolOf hka)
  have HKC := Lib.hid (iff_boolOf hkc)
  have HKN := Lib.hid hkn.symm
  have HA := Lib.hid hA
  have HC := Lib.hid hC
  clear hka hkc hkn hA hC hn
  go_enter Tryz.func59, Tryz.ntmps59
  go_wp2_with (first | (go_at_call 84; (with_reducible refine (S1.out _).mono ?_); rintro e w' ⟨rfl, rfl⟩) | (go_at_call 85; (with_reducible refine (SA.out _ ?_).mono ?_); (focus (exact HA.out.below (Nat.le_refl _) (by (repeat' (first | assumption | exact Below.refl _ _ | exact Below.size (by assumption) | (refine Below.setCell ?_ ?_ _) | (refine Below.alloc ?_ ?_ _) | (refine Below.drew ?_) | (refine below_drewN ?_ _) | (refine Below.trans ?_ (Below.mono ‹Below _ _ _› ?_)) | omega | (simp; done) | (simp; omega) | (simp at *; omega)))))); rintro e w1 ⟨rfl, hb1⟩; obtain ⟨hc1, hf1⟩ := bcell hb1; have hz1 := hb1.size; (try simp at hz1); (try simp only [heap_drew, World.heap_drewN] at hz1); (try simp only [heap_drew, World.heap_drewN] at hc1); (try simp only [heap_drew, World.heap_drewN] at hf1); (try have hs1 := Nat.lt_of_succ_le hz1); (try have hs2 := Nat.lt_of_succ_lt hs1); (try have y0 : w.heap.size < w1.heap.size := by omega); (try have y1 : w.heap.size + 1 < w1.heap.size := by omega); (try have y2 : w.heap.size + 2 < w1.heap.size := by omega)) | (go_at_call 85; (with_reducible refine (SC.out _ ?_).mono ?_); (focus (exact HC.out.below (Nat.le_refl _) (by (repeat' (first | assumption | exact Below.refl _ _ | exact Below.size (by assumption) | (refine Below.setCell ?_ ?_ _) | (refine Below.alloc ?_ ?_ _) | (refine Below.drew ?_) | (refine below_drewN ?_ _) | (refine Below.trans ?_ (Below.mono ‹Below _ _ _› ?_)) | omega | (simp; done) | (simp; omega) | (simp at *; omega)))))); rintro e w1 ⟨rfl, hb1⟩; obtain ⟨hc1, hf1⟩ := bcell hb1; have hz1 := hb1.size; (try simp at hz1); (try simp only [heap_drew, World.heap_drewN] at hz1); (try simp only [heap_drew, World.heap_drewN] at hc1); (try simp only [heap_drew, World.heap_drewN] at hf1); (try have hs1 := Nat.lt_of_succ_le hz1); (try have hs2 := Nat.lt_of_succ_lt hs1); (try have y0 : w.heap.size < w1.heap.size := by omega); (try have y1 : w.heap.size + 1 < w1.heap.size := by omega); (try have y2 : w.heap.size + 2 < w1.heap.size := by omega)))
  all_goals (go_ret; refine ⟨ret_bool (by rw [hf.out]; exact boolOf_eq (by simp [SecOK, HKA.out, HKC.out, HKN.out, *]; try (intros; omega))), ?_⟩; (repeat' (first | assumption | exact Below.refl _ _ | exact Below.size (by assumption) | (refine Below.setCell ?_ ?_ _) | (refine Below.alloc ?_ ?_ _) | (refine Below.drew ?_) | (refine below_drewN ?_ _) | (refine Below.trans ?_ (Below.mono ‹Below _ _ _› ?_)) | omega | (simp; done) | (simp; omega) | (simp at *; omega))))
set_option maxHeartbeats 1000000 in
theorem rsright (nm : ByteArray) (h p : Int) (A C : Option Addr) (na ca nc cc : Nat) (AX AY CX CY : Nat → Int) (w : World) (hn : nm.size ≤ maxLen) (hA : TabIn w A na AX AY) (hC : TabIn w C nc CX CY) :
    Calls Tryz.prog 67 #[.agg #[.string nm, .int .i64 h, .int .i64 p, .slice A na ca, .slice C nc cc]] w fun e w' => e = .returned (.bool (boolOf (SecOK nm.data.toList h p na AX AY nc CX CY))) ∧ Below w.heap.size w w' := by
  have SA := Lib.hid fun w ht => rfits A na ca AX AY h 1073741824 w ht
  have SC := Lib.hid fun w ht => rfits C nc cc CX CY h 1099511627776 w ht
  have S1 := Lib.hid fun w => risname nm hn w
  obtain ⟨f, hf⟩ : ∃ f, Hid (f = boolOf (SecOK nm.data.toList h p na AX AY nc CX CY)) := ⟨_, rfl⟩
  obtain ⟨ka, hka⟩ : ∃ f, f = boolOf (CurveOK na AX AY h 1073741824) := ⟨_, rfl⟩
  obtain ⟨kc, hkc⟩ : ∃ f, f = boolOf (CurveOK nc CX CY h 1099511627776) := ⟨_, rfl⟩
  obtain ⟨kn, hkn⟩ : ∃ f, f = nameB nm.data.toList := ⟨_, rfl⟩
  rw [← hka] at SA
  rw [← hkc] at SC
  rw [← hkn] at S1
  rw [← hf.out]
  have HKA := Lib.hid (iff_boolOf hka)
  have HKC := Lib.hid (iff_boolOf hkc)
  have HKN := Lib.hid hkn.symm
  have HA := Lib.hid hA
  have HC := Lib.hid hC
  clear hka hkc hkn hA hC hn
  go_enter Tryz.func67, Tryz.ntmps67
  go_wp2_with (first | (go_at_call 93; (with_reducible refine (S1.out _).mono ?_); rintro e w' ⟨rfl, rfl⟩) | (go_at_call 94; (with_reducible refine (SA.out _ ?_).mono ?_); (focus (exact HA.out.below (Nat.le_refl _) (by (repeat' (first | assumption | exact Below.refl _ _ | exact Below.size (by assumption) | (refine Below.setCell ?_ ?_ _) | (refine Below.alloc ?_ ?_ _) | (refine Below.drew ?_) | (refine below_drewN ?_ _) | (refine Below.trans ?_ (Below.mono ‹Below _ _ _› ?_)) | omega | (simp; done) | (simp; omega) | (simp at *; omega)))))); rintro e w1 ⟨rfl, hb1⟩; obtain ⟨hc1, hf1⟩ := bcell hb1; have hz1 := hb1.size; (try simp at hz1); (try simp only [heap_drew, World.heap_drewN] at hz1); (try simp only [heap_drew, World.heap_drewN] at hc1); (try simp only [heap_drew, World.heap_drewN] at hf1); (try have hs1 := Nat.lt_of_succ_le hz1); (try have hs2 := Nat.lt_of_succ_lt hs1); (try have y0 : w.heap.size < w1.heap.size := by omega); (try have y1 : w.heap.size + 1 < w1.heap.size := by omega); (try have y2 : w.heap.size + 2 < w1.heap.size := by omega)) | (go_at_call 94; (with_reducible refine (SC.out _ ?_).mono ?_); (focus (exact HC.out.below (Nat.le_refl _) (by (repeat' (first | assumption | exact Below.refl _ _ | exact Below.size (by assumption) | (refine Below.setCell ?_ ?_ _) | (refine Below.alloc ?_ ?_ _) | (refine Below.drew ?_) | (refine below_drewN ?_ _) | (refine Below.trans ?_ (Below.mono ‹Below _ _ _› ?_)) | omega | (simp; done) | (simp; omega) | (simp at *; omega)))))); rintro e w1 ⟨rfl, hb1⟩; obtain ⟨hc1, hf1⟩ := bcell hb1; have hz1 := hb1.size; (try simp at hz1); (try simp only [heap_drew, World.heap_drewN] at hz1); (try simp only [heap_drew, World.heap_drewN] at hc1); (try simp only [heap_drew, World.heap_drewN] at hf1); (try have hs1 := Nat.lt_of_succ_le hz1); (try have hs2 := Nat.lt_of_succ_lt hs1); (try have y0 : w.heap.size < w1.heap.size := by omega); (try have y1 : w.heap.size + 1 < w1.heap.size := by omega); (try have y2 : w.heap.size + 2 < w1.heap.size := by omega)))
  all_goals (go_ret; refine ⟨ret_bool (by rw [hf.out]; exact boolOf_eq (by simp [SecOK, HKA.out, HKC.out, HKN.out, *]; try (intros; omega))), ?_⟩; (repeat' (first | assumption | exact Below.refl _ _ | exact Below.size (by assumption) | (refine Below.setCell ?_ ?_ _) | (refine Below.alloc ?_ ?_ _) | (refine Below.drew ?_) | (refine below_drewN ?_ _) | (refine Below.trans ?_ (Below.mono ‹Below _ _ _› ?_)) | omega | (simp; done) | (simp; omega) | (simp at *; omega))))

end Go.Proofs.YtdgfljkhnifemaaGreatDoor

namespace Go.Proofs.YtdgfljkhnifemaaGreatDoor
open Go.RowKit
set_option linter.unusedVariables false
set_option linter.unusedSimpArgs false

end Go.Proofs.YtdgfljkhnifemaaGreatDoor

namespace Go.Proofs.YtdgfljkhnifemaaGreatDoor
open Go.RowKit
set_option linter.unusedVariables false
set_option linter.unusedSimpArgs false

end Go.Proofs.YtdgfljkhnifemaaGreatDoor

namespace Go.Proofs.YtdgfljkhnifemaaGreatDoor
open Go.RowKit
set_option linter.unusedVariables false
set_option linter.unusedSimpArgs false

end Go.Proofs.YtdgfljkhnifemaaGreatDoor

namespace Go.Proofs.YtdgfljkhnifemaaGreatDoor
open Go.RowKit
set_option linter.unusedVariables false
set_option linter.unusedSimpArgs false

end Go.Proofs.YtdgfljkhnifemaaGreatDoor

namespace Go.Proofs.YtdgfljkhnifemaaGreatDoor.Val

/-- The value, rounded up, by the rest. -/
def up (X Y : Nat → Int) (m : Nat) (x : Int) : Int := val X Y m x + if 0 < rst X Y m x then 1 else 0
end Go.Proofs.YtdgfljkhnifemaaGreatDoor.Val

namespace Go.Proofs.YtdgfljkhnifemaaGreatDoor
open Go.RowKit
set_option linter.unusedVariables false
set_option linter.unusedSimpArgs false

end Go.Proofs.YtdgfljkhnifemaaGreatDoor

namespace Go.Proofs.YtdgfljkhnifemaaGreatDoor
open Go.RowKit
set_option linter.unusedVariables false
set_option linter.unusedSimpArgs false

end Go.Proofs.YtdgfljkhnifemaaGreatDoor

namespace Go.Proofs.YtdgfljkhnifemaaGreatDoor
open Go.RowKit
set_option linter.unusedVariables false
set_option linter.unusedSimpArgs false

end Go.Proofs.YtdgfljkhnifemaaGreatDoor

namespace Go.Proofs.YtdgfljkhnifemaaGreatDoor
open Go.RowKit
set_option linter.unusedVariables false
set_option linter.unusedSimpArgs false
set_option maxHeartbeats 1000000

end Go.Proofs.YtdgfljkhnifemaaGreatDoor

namespace Go.Proofs.YtdgfljkhnifemaaGreatDoor
open Go.RowKit
set_option linter.unusedVariables false
set_option linter.unusedSimpArgs false

end Go.Proofs.YtdgfljkhnifemaaGreatDoor

namespace Go.Proofs.YtdgfljkhnifemaaGreatDoor
open Go.RowKit
set_option linter.unusedVariables false
set_option linter.unusedSimpArgs false

end Go.Proofs.YtdgfljkhnifemaaGreatDoor

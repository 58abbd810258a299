/- Rows of words: what both sides make. No program stands here but in the import. -/
import Derived.Test.YthbdeaglncoanaaGreatDoorStrs
import Derived.Test.YthbdeaglncoanaaGreatDoorFmt
namespace Go.Proofs.YthbdeaglncoanaaGreatDoor
open Go.RowKit
set_option linter.unusedVariables false
set_option linter.unusedSimpArgs false

def byt (s : ByteArray) (k : Nat) : Nat := (s.data.toList.getD k 0).toNat
def badAt (s : ByteArray) : Prop := s.size = 0 ∨ ∃ j, j < s.size ∧ (byt s j < 33 ∨ 126 < byt s j)
def sp : ByteArray := ⟨#[32]⟩
/-- One more word: behind the last row, if it fits, else in a new one. -/
def putR (W : Int) (out : List ByteArray) (s : ByteArray) : List ByteArray :=
  if out = [] then [s] else if ((out.getD (out.length - 1) ByteArray.empty).size : Int) + 1 + (s.size : Int) ≤ W then out.set (out.length - 1) (out.getD (out.length - 1) ByteArray.empty ++ (sp ++ s)) else out ++ [s]
def rowsTo (W : Int) (X : Nat → ByteArray) : Nat → List ByteArray
  | 0 => []
  | i + 1 => putR W (rowsTo W X i) (X i)
/-- What Rows answers. -/
inductive RowsIs (W : Int) (n : Nat) (X : Nat → ByteArray) : List ByteArray → Int → Prop where
  | range (h : W < 1 ∨ 500 < W) : RowsIs W n X [] 2
  | form (h : 1 ≤ W ∧ W ≤ 500) (hb : ∃ i, i < n ∧ badAt (X i)) : RowsIs W n X [] 7
  | big (h : 1 ≤ W ∧ W ≤ 500) (hg : ∀ i, i < n → ¬ badAt (X i)) (hb : ∃ i, i < n ∧ W < ((X i).size : Int)) : RowsIs W n X [] 5
  | ok (h : 1 ≤ W ∧ W ≤ 500) (hg : ∀ i, i < n → ¬ badAt (X i)) (hs : ∀ i, i < n → ((X i).size : Int) ≤ W) : RowsIs W n X (rowsTo W X n) 0
def sc (L : List ByteArray) : List Value := L.map Value.string
theorem sc_append (a b : List ByteArray) : sc (a ++ b) = sc a ++ sc b := by unfold sc; rw [List.map_append]
theorem sc_set (L : List ByteArray) (k : Nat) (x : ByteArray) : (sc L).set k (.string x) = sc (L.set k x) := by unfold sc; rw [List.map_set]
theorem sc_at {L : List ByteArray} {k : Nat} (h : k < L.length) : (sc L)[k]? = some (.string (L.getD k ByteArray.empty)) := by
  unfold sc; simp [List.getD, h]
/-- A row that is owned, as a slice of strings. -/
theorem str_of_own {w : World} {base g cap : Nat} {t : TypeId} {L : List ByteArray} (h : w.ownsRow base t 1 (.slice (some ⟨g, 0, none⟩) L.length cap) L.length (sc L)) : StrAt w g 0 L.length (fun k => L.getD k ByteArray.empty) := by
  refine ⟨(h.lt g rfl).2, fun k hk => ?_⟩
  rw [Nat.zero_add, h.cellAt k (by omega), sc_at hk]
/-- What a call of Rows leaves. -/
def RowsPost (w : World) (W : Int) (n : Nat) (X : Nat → ByteArray) (e : Ending) (w' : World) : Prop := ∃ (R : List ByteArray) (err : Int) (A : Option Addr) (cap N : Nat), N = R.length ∧ RowsIs W n X R err ∧
  e = .returned (.tuple #[.slice A N cap, .int .i64 err]) ∧ StrIn w' A N (fun k => R.getD k ByteArray.empty) ∧ Below w.heap.size w w' ∧ N ≤ cap
end Go.Proofs.YthbdeaglncoanaaGreatDoor

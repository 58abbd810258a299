/- Slices of strings, and slices.ContainsFunc at the predicates that stand here. -/
import Derived.Test.YthbdeaglncoanaaGreatDoorEnv
import Derived.Lib.ConvBytes
namespace Go.Proofs.YthbdeaglncoanaaGreatDoor
open Go.RowKit
set_option linter.unusedVariables false
set_option linter.unusedSimpArgs false

/-- n strings from an address on. -/
def StrAt (w : World) (b off n : Nat) (X : Nat → ByteArray) : Prop := b < w.heap.size ∧ ∀ k, k < n → w.cell? ⟨b, off + k, none⟩ = some (.string (X k))
theorem StrAt.below {w w' : World} {B b off n : Nat} {X : Nat → ByteArray} (h : StrAt w b off n X) (hb : Below B w w') (hB : b < B) : StrAt w' b off n X :=
  ⟨Nat.lt_of_lt_of_le h.1 (Nat.le_trans (Nat.le_refl _) hb.size), fun k hk => (hb.cell (p := ⟨b, off + k, none⟩) hB).trans (h.2 k hk)⟩
/-- A slice of strings, nil perhaps. -/
def StrIn (w : World) (A : Option Addr) (n : Nat) (X : Nat → ByteArray) : Prop := n ≤ 9223372036854775807 ∧ (n = 0 ∨ ∃ b off, A = some ⟨b, off, none⟩ ∧ StrAt w b off n X)
theorem StrIn.below {w w' : World} {B n : Nat} {A : Option Addr} {X : Nat → ByteArray} (h : StrIn w A n X) (hB : w.heap.size ≤ B) (hb : Below B w w') : StrIn w' A n X := by
  refine ⟨h.1, ?_⟩
  rcases h.2 with h0 | ⟨b, off, hA, ht⟩
  · exact .inl h0
  · exact .inr ⟨b, off, hA, ht.below hb (Nat.lt_of_lt_of_le ht.1 hB)⟩
/-- The slice's cell at an index, wherever it lies. -/
theorem StrIn.at {w : World} {A : Option Addr} {n k : Nat} {X : Nat → ByteArray} (h : StrIn w A n X) (hk : k < n) : ∃ b off, A = some ⟨b, off, none⟩ ∧ b < w.heap.size ∧ w.cell? ⟨b, off + k, none⟩ = some (.string (X k)) := by
  rcases h.2 with h0 | ⟨b, off, hA, ht⟩
  · omega
  · exact ⟨b, off, hA, ht.1, ht.2 k hk⟩

end Go.Proofs.YthbdeaglncoanaaGreatDoor

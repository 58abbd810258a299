/- Slices of strings, and slices.ContainsFunc at the predicates that stand here. -/
import Derived.Test.YtghefgifhebniaaGreatDoorEnv
import Derived.Lib.ConvBytes
namespace Go.Proofs.YtghefgifhebniaaGreatDoor
open Go.RowKit
set_option linter.unusedVariables false
set_option linter.unusedSimpArgs false
def StrAt (w : World) (b off n : Nat) (X : Nat → ByteArray) : Prop := b < w.heap.size ∧ ∀ k, k < n → w.cell? ⟨b, off + k, none⟩ = some (.string (X k))
theorem StrAt.below {w w' : World} {B b off n : Nat} {X : Nat → ByteArray} (h : StrAt w b off n X) (hb : Below B w w') (hB : b < B) : StrAt w' b off n X :=
 ⟨Nat.lt_of_lt_of_le h.1 (Nat.le_trans (Nat.le_refl _) hb.size), fun k hk => (hb.cell (p := ⟨b, off + k, none⟩) hB).trans (h.2 k hk)⟩
def StrIn (w : World) (A : Option Addr) (n : Nat) (X : Nat → ByteArray) : Prop := n ≤ 9223372036854775807 ∧ (n = 0 ∨ ∃ b off, A = some ⟨b, off, none⟩ ∧ StrAt w b off n X)
theorem StrIn.below {w w' : World} {B n : Nat} {A : Option Addr} {X : Nat → ByteArray} (h : StrIn w A n X) (hB : w.heap.size ≤ B) (hb : Below B w w') : StrIn w' A n X := by
 refine ⟨h.1, ?_⟩
 rcases h.2 with h0 | ⟨b, off, hA, ht⟩
 · exact .inl h0
 · exact .inr ⟨b, off, hA, ht.below hb (Nat.lt_of_lt_of_le ht.1 hB)⟩
theorem StrIn.at {w : World} {A : Option Addr} {n k : Nat} {X : Nat → ByteArray} (h : StrIn w A n X) (hk : k < n) : ∃ b off, A = some ⟨b, off, none⟩ ∧ b < w.heap.size ∧ w.cell? ⟨b, off + k, none⟩ = some (.string (X k)) := by
 rcases h.2 with h0 | ⟨b, off, hA, ht⟩
 · omega
 · exact ⟨b, off, hA, ht.1, ht.2 k hk⟩
def FirstAt (p : Nat → Bool) (n k : Nat) : Prop := k ≤ n ∧ (∀ j, j < k → p j = false) ∧ (k < n → p k = true)
theorem first_ex (p : Nat → Bool) : ∀ n, ∃ k, FirstAt p n k := by
 intro n
 induction n with
 | zero => exact ⟨0, Nat.le_refl _, fun j hj => absurd hj (by omega), fun h => absurd h (by omega)⟩
 | succ n ih =>
   obtain ⟨k, h1, h2, h3⟩ := ih
   by_cases hk : k < n
   · exact ⟨k, by omega, h2, fun _ => h3 hk⟩
   · have : k = n := by omega
     subst this
     cases hp : p k with
     | true => exact ⟨k, by omega, h2, fun _ => hp⟩
     | false => exact ⟨k + 1, by omega, fun j hj => by
        rcases Nat.lt_or_ge j k with h | h
        · exact h2 j h
        · have : j = k := by omega
          rw [this]; exact hp, fun h => absurd h (by omega)⟩
theorem first_at {p : Nat → Bool} {n k i : Nat} (h : FirstAt p n k) (hi : i < n) (hik : i ≤ k) : (p i = true ∧ i = k) ∨ (p i = false ∧ i + 1 ≤ k) := by
 rcases Nat.lt_or_ge i k with h1 | h1
 · exact .inr ⟨h.2.1 i h1, h1⟩
 · have : i = k := by omega
   subst this
   exact .inl ⟨h.2.2 hi, rfl⟩
theorem first_any {p : Nat → Bool} {n k : Nat} (h : FirstAt p n k) : (k < n) ↔ ∃ j, j < n ∧ p j = true := by
 constructor
 · intro hk; exact ⟨k, hk, h.2.2 hk⟩
 · rintro ⟨j, hj, hp⟩
   rcases Nat.lt_or_ge j k with g | g
   · rw [h.2.1 j g] at hp; cases hp
   · omega
end Go.Proofs.YtghefgifhebniaaGreatDoor

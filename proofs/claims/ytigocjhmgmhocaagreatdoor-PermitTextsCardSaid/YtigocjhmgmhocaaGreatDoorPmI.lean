/- Lists of permits in memory. Plain. -/
import Derived.Test.YtigocjhmgmhocaaGreatDoorPtP
namespace Go.Proofs.YtigocjhmgmhocaaGreatDoor
open Go.RowKit
set_option linter.unusedVariables false
set_option linter.unusedSimpArgs false

structure Pms where
  Nm : Nat → ByteArray
  Nd : Nat → ByteArray
  Ev : Nat → Int
  Vol : Nat → Int
  Tot : Nat → Int
def PmAt (w : World) (b off n : Nat) (P : Pms) : Prop := b < w.heap.size ∧ ∀ k, k < n → w.cell? ⟨b, off + k * 5, none⟩ = some (.string (P.Nm k)) ∧ w.cell? ⟨b, off + k * 5 + 1, none⟩ = some (.string (P.Nd k)) ∧ w.cell? ⟨b, off + k * 5 + 2, none⟩ = some (.int .i64 (P.Ev k)) ∧ w.cell? ⟨b, off + k * 5 + 3, none⟩ = some (.int .i64 (P.Vol k)) ∧ w.cell? ⟨b, off + k * 5 + 4, none⟩ = some (.int .i64 (P.Tot k))
theorem PmAt.below {w w' : World} {B b off n : Nat} {P : Pms} (h : PmAt w b off n P) (hb : Below B w w') (hB : b < B) : PmAt w' b off n P :=
  ⟨Nat.lt_of_lt_of_le h.1 hb.size, fun k hk => by
    obtain ⟨h0, h1, h2, h3, h4⟩ := h.2 k hk
    exact ⟨(hb.cell (p := ⟨b, _, none⟩) hB).trans h0, (hb.cell (p := ⟨b, _, none⟩) hB).trans h1, (hb.cell (p := ⟨b, _, none⟩) hB).trans h2, (hb.cell (p := ⟨b, _, none⟩) hB).trans h3, (hb.cell (p := ⟨b, _, none⟩) hB).trans h4⟩⟩
def PmIn (w : World) (A : Option Addr) (n : Nat) (P : Pms) : Prop := n ≤ 9223372036854775807 ∧ (n = 0 ∨ ∃ b off, A = some ⟨b, off, none⟩ ∧ PmAt w b off n P)
theorem PmIn.below {w w' : World} {B n : Nat} {A : Option Addr} {P : Pms} (h : PmIn w A n P) (hB : w.heap.size ≤ B) (hb : Below B w w') : PmIn w' A n P := by
  refine ⟨h.1, ?_⟩
  rcases h.2 with h0 | ⟨b, off, hA, ht⟩
  · exact .inl h0
  · exact .inr ⟨b, off, hA, ht.below hb (Nat.lt_of_lt_of_le ht.1 hB)⟩
theorem PmIn.at {w : World} {A : Option Addr} {n k : Nat} {P : Pms} (h : PmIn w A n P) (hk : k < n) : ∃ b off, A = some ⟨b, off, none⟩ ∧ b < w.heap.size ∧ w.cell? ⟨b, off + k * 5, none⟩ = some (.string (P.Nm k)) ∧ w.cell? ⟨b, off + k * 5 + 1, none⟩ = some (.string (P.Nd k)) ∧ w.cell? ⟨b, off + k * 5 + 2, none⟩ = some (.int .i64 (P.Ev k)) ∧ w.cell? ⟨b, off + k * 5 + 3, none⟩ = some (.int .i64 (P.Vol k)) ∧ w.cell? ⟨b, off + k * 5 + 4, none⟩ = some (.int .i64 (P.Tot k)) := by
  rcases h.2 with h0 | ⟨b, off, hA, ht⟩
  · omega
  · exact ⟨b, off, hA, ht.1, ht.2 k hk⟩

def Pms.at (P : Pms) (k : Nat) : Pmr := ⟨P.Nm k, P.Nd k, P.Ev k, P.Vol k, P.Tot k⟩
def pml (P : Pms) (n : Nat) : List Pmr := (List.range n).map P.at
theorem pml_succ (P : Pms) (n : Nat) : pml P (n + 1) = pml P n ++ [P.at n] := by unfold pml; rw [List.range_succ, List.map_append]; rfl
theorem pml_len (P : Pms) (n : Nat) : (pml P n).length = n := by simp [pml]
theorem pml_mem {P : Pms} {n : Nat} {p : Pmr} : p ∈ pml P n ↔ ∃ k, k < n ∧ p = P.at k := by
  unfold pml
  rw [List.mem_map]
  exact ⟨fun ⟨k, h1, h2⟩ => ⟨k, List.mem_range.1 h1, h2.symm⟩, fun ⟨k, h1, h2⟩ => ⟨k, List.mem_range.2 h1, h2.symm⟩⟩
end Go.Proofs.YtigocjhmgmhocaaGreatDoor

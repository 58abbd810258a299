/- Lists of knots, and slices of them that the call owns. -/
import Derived.Test.YthbdeaglncoanaaGreatDoorTab
namespace Go.Proofs.YthbdeaglncoanaaGreatDoor
open Go.RowKit
set_option linter.unusedVariables false
set_option linter.unusedSimpArgs false

def kc (L : List (Int × Int)) : List Value := L.flatMap fun p => [.int .i64 p.1, .int .i64 p.2]
def kX (L : List (Int × Int)) (k : Nat) : Int := (L.getD k (0, 0)).1
def kY (L : List (Int × Int)) (k : Nat) : Int := (L.getD k (0, 0)).2
theorem kc_append (L M : List (Int × Int)) : kc (L ++ M) = kc L ++ kc M := by unfold kc; rw [List.flatMap_append]
theorem kc_at (L : List (Int × Int)) (k : Nat) (h : k < L.length) : (kc L)[k * 2]? = some (.int .i64 (kX L k)) ∧ (kc L)[k * 2 + 1]? = some (.int .i64 (kY L k)) := by
  induction L generalizing k with
  | nil => simp at h
  | cons p L ih =>
    cases k with
    | zero => exact ⟨rfl, rfl⟩
    | succ k =>
      have := ih k (by simp at h; omega)
      have e1 : (k + 1) * 2 = k * 2 + 1 + 1 := by omega
      rw [e1]
      exact this
theorem tab_of_kc {w : World} {base g cap : Nat} {t : TypeId} {L : List (Int × Int)} (h : w.ownsRow base t 2 (.slice (some ⟨g, 0, none⟩) L.length cap) L.length (kc L)) : TabAt w g 0 L.length (kX L) (kY L) := by
  refine ⟨(h.lt g rfl).2, fun k hk => ?_⟩
  obtain ⟨h1, h2⟩ := kc_at L k hk
  rw [Nat.zero_add]
  exact ⟨(h.cellAt (k * 2) (by omega)).trans h1, (h.cellAt (k * 2 + 1) (by omega)).trans h2⟩
theorem h63_le {n : Nat} (h : n ≤ 300) : n + 1 ≤ maxLen := by simp only [maxLen]; omega
theorem hby_le {n : Nat} (h : n ≤ 300) : (n + 1) * 16 ≤ 140737488355328 := by omega
end Go.Proofs.YthbdeaglncoanaaGreatDoor

/- Lists of knots, and slices of them that the call owns. -/
import Derived.Test.YtpeelnjkppdkbaaCircle
namespace Go.Proofs.Ytpeelnjkppdkbaa
open Go.RowKit
set_option linter.unusedVariables false
set_option linter.unusedSimpArgs false

def kc (L : List (Int × Int)) : List Value := L.flatMap fun p => [.int .i64 p.1, .int .i64 p.2]
def kX (L : List (Int × Int)) (k : Nat) : Int := (L.getD k (0, 0)).1
def kY (L : List (Int × Int)) (k : Nat) : Int := (L.getD k (0, 0)).2
theorem kc_append (L M : List (Int × Int)) : kc (L ++ M) = kc L ++ kc M := by unfold kc; rw [List.flatMap_append]
theorem kc_one (x y : Int) : kc [(x, y)] = [.int .i64 x, .int .i64 y] := rfl
theorem kc_len (L : List (Int × Int)) : (kc L).length = L.length * 2 := by
  induction L with
  | nil => rfl
  | cons p L ih => show (kc ([p] ++ L)).length = _; rw [kc_append, List.length_append, ih]; simp [kc]; omega
theorem kc_at (L : List (Int × Int)) (k : Nat) (h : k < L.length) : (kc L)[k * 2]? = some (.int .i64 (kX L k)) ∧ (kc L)[k * 2 + 1]? = some (.int .i64 (kY L k)) := by
  induction L generalizing k with
  | nil => simp at h
  | cons p L ih =>
    cases k with
    | zero => exact ⟨rfl, rfl⟩
    | succ k =>
      have := ih k (by simp at h; omega)
      have e1 : (k + 1) * 2 = k * 2 + 1 + 1 := by omega
      rw [e1]
      exact this
theorem tab_of_kc {w : World} {base g cap : Nat} {t : TypeId} {L : List (Int × Int)} (h : w.ownsRow base t 2 (.slice (some ⟨g, 0, none⟩) L.length cap) L.length (kc L)) : TabAt w g 0 L.length (kX L) (kY L) := by
  refine ⟨(h.lt g rfl).2, fun k hk => ?_⟩
  obtain ⟨h1, h2⟩ := kc_at L k hk
  rw [Nat.zero_add]
  exact ⟨(h.cellAt (k * 2) (by omega)).trans h1, (h.cellAt (k * 2 + 1) (by omega)).trans h2⟩
theorem h63_le {n : Nat} (h : n ≤ 300) : n + 1 ≤ maxLen := by simp only [maxLen]; omega
theorem hby_le {n : Nat} (h : n ≤ 300) : (n + 1) * 16 ≤ 140737488355328 := by omega
theorem base_alloc1 {w : World} {b : Nat} (h : b ≤ w.heap.size) (o : Obj) : b ≤ (w.alloc o).heap.size := by simp; omega
theorem info_parts1 {P : Program} {e : TypeId} {x y z} (h : (P.info? e).map (fun i => (i.zero, i.size, i.bytes)) = some (x, y, z)) : ∃ i, P.info? e = some i ∧ i.zero = x ∧ i.size = y ∧ i.bytes = z := by
  cases hi : P.info? e with
  | none => rw [hi] at h; simp at h
  | some i => rw [hi] at h; simp at h; exact ⟨i, rfl, h.1, h.2.1, h.2.2⟩
end Go.Proofs.Ytpeelnjkppdkbaa

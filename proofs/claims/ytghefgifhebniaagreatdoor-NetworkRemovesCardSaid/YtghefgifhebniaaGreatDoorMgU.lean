/- Merged texts of these proofs: WyP, WtP. -/
import Derived.Test.YtghefgifhebniaaGreatDoorMgD
import Derived.Test.YtghefgifhebniaaGreatDoorMgC
import Derived.Test.YtghefgifhebniaaGreatDoorMgS
namespace Go.Proofs.YtghefgifhebniaaGreatDoor
set_option linter.unusedVariables false
set_option linter.unusedSimpArgs false
end Go.Proofs.YtghefgifhebniaaGreatDoor
namespace Go.Proofs.YtghefgifhebniaaGreatDoor
open Go.RowKit
set_option linter.unusedVariables false
set_option linter.unusedSimpArgs false
def cutL (K : Lks) (i k : Nat) : List Lkr := (recL K k).eraseIdx i
theorem cutL_zero (K : Lks) (i : Nat) : cutL K i 0 = [] := by simp [cutL, recL]
theorem cutL_skip (K : Lks) (i : Nat) : cutL K i (i + 1) = cutL K i i := by
 unfold cutL
 rw [recL_succ, List.eraseIdx_append_of_length_le (by rw [recL_len]; exact Nat.le_refl _), recL_len, Nat.sub_self, List.eraseIdx_of_length_le (l := recL K i) (by rw [recL_len]; exact Nat.le_refl _)]
 simp
theorem cutL_take (K : Lks) {i k : Nat} (h : k ≠ i) : cutL K i (k + 1) = cutL K i k ++ [lkrOf K k] := by
 unfold cutL
 rw [recL_succ]
 rcases Nat.lt_or_ge i k with g | g
 · rw [List.eraseIdx_append_of_lt_length (by rw [recL_len]; exact g)]
 · rw [List.eraseIdx_of_length_le (l := recL K k) (by rw [recL_len]; exact g), List.eraseIdx_of_length_le (by rw [List.length_append, recL_len, List.length_singleton]; omega)]
theorem cutL_len (K : Lks) {i m : Nat} (h : i < m) : (cutL K i m).length = m - 1 := by
 unfold cutL
 rw [List.length_eraseIdx, recL_len, if_pos h]
theorem cutL_le (K : Lks) (i m : Nat) : (cutL K i m).length ≤ m := by
 unfold cutL
 rw [List.length_eraseIdx, recL_len]
 split <;> omega
theorem cutL_split (K : Lks) (i m : Nat) : cutL K i m = (recL K m).take i ++ (recL K m).drop (i + 1) := List.eraseIdx_eq_take_drop_succ _ _
end Go.Proofs.YtghefgifhebniaaGreatDoor

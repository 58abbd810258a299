/- Rows joined are the words joined; the first word of a row would not have fitted before. Plain mathematics. -/
import Derived.Test.YthbdeaglncoanaaGreatDoorRowP
import Derived.Lib.Join
import Derived.Lib.Bytealg
namespace Go.Proofs.YthbdeaglncoanaaGreatDoor
open Go.RowKit
set_option linter.unusedVariables false
set_option linter.unusedSimpArgs false

/-- The strings, joined by spaces. -/
def jn (R : List ByteArray) : List UInt8 := Lib.join (R.map (·.data.toList)) [32]
theorem jn_one (s : ByteArray) : jn [s] = s.data.toList := by unfold jn; exact Lib.join_one _ _
theorem jn_snoc {R : List ByteArray} (h : R ≠ []) (s : ByteArray) : jn (R ++ [s]) = jn R ++ 32 :: s.data.toList := by
  cases R with
  | nil => exact absurd rfl h
  | cons a r =>
    unfold jn
    simp only [List.cons_append, List.map_cons, List.map_append, List.map_nil, Lib.join_cons, Lib.joinTail, List.flatten_append, List.map_cons]
    simp
def wl (X : Nat → ByteArray) (n : Nat) : List ByteArray := (List.range n).map X
theorem wl_succ (X : Nat → ByteArray) (n : Nat) : wl X (n + 1) = wl X n ++ [X n] := by unfold wl; rw [List.range_succ, List.map_append]; rfl
theorem jn_len (X : Nat → ByteArray) (M : Nat) : ∀ n, (∀ i, i < n → (X i).size ≤ M) → (jn (wl X n)).length ≤ n * (M + 1)
  | 0, _ => by simp [jn, wl, Lib.join]
  | n + 1, h => by
    have ih := jn_len X M n (fun i hi => h i (by omega))
    have hl := h n (by omega)
    rw [size_list] at hl
    rw [wl_succ]
    by_cases hw : wl X n = []
    · rw [hw, List.nil_append, jn_one, Nat.add_mul]
      omega
    · rw [jn_snoc hw, List.length_append, List.length_cons, Nat.add_mul]
      omega

end Go.Proofs.YthbdeaglncoanaaGreatDoor

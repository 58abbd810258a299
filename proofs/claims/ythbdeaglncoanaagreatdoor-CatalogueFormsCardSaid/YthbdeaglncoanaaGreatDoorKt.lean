/- Lists of knots made of functions. -/
import Derived.Test.YthbdeaglncoanaaGreatDoorKl
namespace Go.Proofs.YthbdeaglncoanaaGreatDoor
open Go.RowKit
set_option linter.unusedVariables false
set_option linter.unusedSimpArgs false

theorem info39 : (Tryz.prog.info? 44).map (fun i => (i.zero, i.size, i.bytes)) = some (some (.agg #[.int .i64 0, .int .i64 0]), 2, 16) := by kernel_rfl
def tl (n : Nat) (X Y : Nat → Int) : List (Int × Int) := (List.range n).map fun k => (X k, Y k)
theorem tl_at {n k : Nat} {X Y : Nat → Int} (h : k < n) : kX (tl n X Y) k = X k ∧ kY (tl n X Y) k = Y k := by
  unfold kX kY tl
  simp [List.getD, h]
theorem tl_succ (n : Nat) (X Y : Nat → Int) : tl (n + 1) X Y = tl n X Y ++ [(X n, Y n)] := by unfold tl; rw [List.range_succ, List.map_append]; rfl
end Go.Proofs.YthbdeaglncoanaaGreatDoor

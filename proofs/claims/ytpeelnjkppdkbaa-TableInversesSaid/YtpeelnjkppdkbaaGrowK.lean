/- slices.Grow at knots, of a nil slice, and slices.Concat of two tables. -/
import Derived.Test.YtpeelnjkppdkbaaKl
import Derived.Lib.AppendZerosOnto
import Derived.Lib.AppendZeros
import Derived.Lib.SliceRun
import Derived.Lib.Walk
namespace Go.Proofs.Ytpeelnjkppdkbaa
open Go.RowKit
set_option linter.unusedVariables false
set_option linter.unusedSimpArgs false

set_option maxHeartbeats 2000000 in
set_option maxRecDepth 100000 in
theorem cgrow (n : Nat) (h0 : 0 < n) (h1 : n ≤ 300) (w : World) :
    Calls Try.prog 70 #[.slice none 0 0, .int .i64 (n : Int)] w fun e w' => ∃ C : Nat, e = .returned (.slice (some ⟨w.heap.size, 0, none⟩) 0 C) ∧ w'.ownsRow w.heap.size 47 2 (.slice (some ⟨w.heap.size, 0, none⟩) 0 C) 0 [] ∧ Below w.heap.size w w' := by
  obtain ⟨i0, hi0, hz0, hs0, hby⟩ := info_parts1 info39
  have hold : (Builtin.firstCells i0.size 0 (.slice none 0 0)).run Try.prog w.drew = .ok (#[] : Array Value) w.drew := run_firstCells_none w.drew i0.size 0 0 0
  have hge := grownCap_ge w n 0 47
  have hle := grownCap_le_maxLen w n 0 47 (by unfold maxLen; omega)
  have hr : ∀ ty, (Builtin.append_ #[23, 3] ty #[.slice none 0 0, .int .i64 (n : Int)]).run Try.prog w =
      .ok (.slice (some ⟨w.heap.size, 0, none⟩) n (grownCap w n 0 47)) (w.drew.alloc (.cells (#[] ++ Builtin.zeroCells (Value.agg #[.int .i64 0, .int .i64 0]).cells n ++ Builtin.zeroCells (Value.agg #[.int .i64 0, .int .i64 0]).cells (grownCap w n 0 47 - n)) 47)) := fun ty => by
    have h := Lib.run_append_grow_zeros w 23 3 ty 47 i0 (.agg #[.int .i64 0, .int .i64 0]) .i64 .i64 Try.underlying23 Try.underlying3 hi0 hz0 none 0 0 [] hold n h0 (by omega) (by omega) (by omega) (by rw [hby]; omega) (growslice_fits (by omega) (by rw [hby]; omega))
    rw [Nat.zero_add] at h
    exact h
  obtain ⟨C, hC⟩ : ∃ C, C = grownCap w n 0 47 := ⟨_, rfl⟩
  rw [← hC] at hr hge hle
  have HO : Hid (∀ u, u = (w.drew.alloc (.cells (#[] ++ Builtin.zeroCells (Value.agg #[.int .i64 0, .int .i64 0]).cells n ++ Builtin.zeroCells (Value.agg #[.int .i64 0, .int .i64 0]).cells (C - n)) 47)) → u.ownsRow w.heap.size 47 2 (.slice (some ⟨w.heap.size, 0, none⟩) 0 C) 0 [] ∧ Below w.heap.size w u) := by
    rintro u rfl
    refine ⟨⟨rfl, .inr ⟨w.heap.size, C, _, rfl, Nat.le_refl _, heap_alloc_new w.drew _, Nat.zero_le _, hle, ?_, rfl⟩⟩, (Below.refl _ w).drew.alloc (Nat.le_refl _) _⟩
    simp only [Array.size_append, size_zeroCells]
    have : (Value.agg #[.int .i64 0, .int .i64 0]).cells.size = 2 := rfl
    rw [this]
    simp
    omega
  have h2 : wrap64 ((n : Int) - 0) = (n : Int) := by unfold wrap64; omega
  have h3 : IntKind.i64.wrap ((n : Int) - 0) = (n : Int) := by rw [IntKind.wrap_i64]; omega
  have h3' : IntKind.i64.wrap (n : Int) = (n : Int) := by rw [IntKind.wrap_i64]; omega
  have h4 : decide ((0 : Int) < (n : Int)) = true := by simp; omega
  have h5 : decide (0 < n) = true := decide_eq_true h0
  have h6 : decide ((n : Int) < 0) = false := by simp
  have HL := Lib.hid hle
  have hr2 := Lib.hid hr
  have hC0 : (0 : Int) ≤ (C : Int) := by omega
  clear hold hge hle hC hr h0 h1
  go_enter Try.func70, Try.ntmps70
  go_wp2_with (at_builtin; refine Lib.wpList_append_run _ rfl _ _ _ _ rfl _ _ rfl rfl _ _ (hr2.out _) ?_)
  go_ret
  exact ⟨C, rfl, HO.out _ (by simp; rfl)⟩
end Go.Proofs.Ytpeelnjkppdkbaa

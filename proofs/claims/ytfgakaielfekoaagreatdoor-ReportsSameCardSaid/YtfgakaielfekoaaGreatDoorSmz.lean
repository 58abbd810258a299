/- slices.Clone, Concat and Reverse at no states. -/
import Derived.Test.YtfgakaielfekoaaGreatDoorSmr
namespace Go.Proofs.YtfgakaielfekoaaGreatDoor
open Go.RowKit
set_option linter.unusedVariables false
set_option linter.unusedSimpArgs false

theorem run_app0 {w : World} {base : Nat} {v : Value} (hown : w.ownsRow base 49 4 v 0 []) (A : Option Addr) (c : Nat) (ty : TypeId) : (Builtin.append_ #[42, 42] ty #[v, .slice A 0 c]).run Tryz.prog w = .ok v w := by
  obtain ⟨i0, hi, hz0, hs0, hby⟩ := info_parts1 infoSt
  rcases hown.2 with ⟨rfl, _⟩ | ⟨g, cap, cur, rfl, _, _, hnc, _⟩
  · cases A <;> simp [Builtin.append_, run_underlying Tryz.underlying42, sizeOf, typeInfo, hi, Builtin.lenOf, Builtin.firstCells, loadCells, loadCellsFrom, storeCells]
  · cases A <;> simp [Builtin.append_, run_underlying Tryz.underlying42, sizeOf, typeInfo, hi, Builtin.lenOf, Builtin.firstCells, loadCells, loadCellsFrom, storeCells]
set_option maxRecDepth 100000 in
theorem sclone0 (A : Option Addr) (c : Nat) (w : World) : Calls Tryz.prog 19 #[.slice A 0 c] w fun e w' => ∃ (A' : Option Addr) (c' : Nat), e = .returned (.slice A' 0 c') ∧ Below w.heap.size w w' := by
  cases A with
  | none =>
    have hnil : ∀ w, (binOp .eql 42 (.slice none 0 c) (.slice none 0 0)).run Tryz.prog w = .ok (.bool true) w := fun w => by kernel_rfl
    go_enter Tryz.func19, Tryz.ntmps19
    go_wp2_with fail
    go_ret
    exact ⟨none, 0, rfl, Below.refl _ _⟩
  | some a =>
    have hnil : ∀ w, (binOp .eql 42 (.slice (some a) 0 c) (.slice none 0 0)).run Tryz.prog w = .ok (.bool false) w := fun w => by kernel_rfl
    have HO0 : Hid ((w.alloc (.cells #[] 49)).ownsRow w.heap.size 49 4 (.slice (some ⟨w.heap.size, 0, none⟩) 0 0) 0 []) := World.ownsRow_lit w #[] 0 (Nat.le_refl _) (by unfold maxLen; omega) rfl
    have HB0 : Hid (Below w.heap.size w (w.alloc (.cells #[] 49))) := (Below.refl _ w).alloc (Nat.le_refl _) _
    go_enter Tryz.func19, Tryz.ntmps19
    go_wp2_with (at_builtin; refine Lib.wpList_append_run _ rfl _ _ _ _ rfl _ _ rfl rfl _ _ (run_app0 HO0.out _ _ _) ?_)
    go_ret
    exact ⟨_, 0, rfl, HB0.out⟩
set_option maxRecDepth 100000 in
theorem srev0 (A : Option Addr) (c : Nat) (w : World) : Calls Tryz.prog 20 #[.slice A 0 c] w fun e w' => e = .returned (.tuple #[]) ∧ Below w.heap.size w w' := by
  go_enter Tryz.func20, Tryz.ntmps20
  go_wp2_with fail
  go_loopw [2, 3] (fun u v wr => u = .int .i64 0 ∧ v = .int .i64 (-1) ∧ wr = w) (fun _ _ _ => 0)
  case atStart => exact ⟨rfl, rfl, rfl⟩
  case round =>
    obtain ⟨rfl, rfl, rfl⟩ := hrel
    go_wp2_with fail
    refine bodyPost_end (v := .tuple #[]) (by simp [results, Tryz.results20, go_sem]) rfl ⟨rfl, Below.refl _ _⟩
set_option maxRecDepth 100000 in
theorem sgrow0 (w : World) : Calls Tryz.prog 63 #[.slice none 0 0, .int .i64 0] w fun e w' => e = .returned (.slice none 0 0) ∧ w = w' := by
  go_enter Tryz.func63, Tryz.ntmps63
  go_wp2_with fail
  go_ret
  exact ⟨rfl, rfl⟩
set_option maxRecDepth 100000 in
theorem sconcat0 (g : Nat) (A : Option Addr) (c : Nat) (w : World) (hg : g < w.heap.size) (c0 : w.cell? ⟨g, 0, none⟩ = some (.slice A 0 c)) (c1 : w.cell? ⟨g, 1, none⟩ = some (.slice A 0 c)) :
    Calls Tryz.prog 21 #[.slice (some ⟨g, 0, none⟩) 2 2] w fun e w' => e = .returned (.slice none 0 0) ∧ Below w.heap.size w w' := by
  have SG := Lib.hid fun w => sgrow0 w
  have HN : Hid (∀ w : World, w.ownsRow w.heap.size 49 4 (.slice none 0 0) 0 []) := fun w => World.ownsRow_nil _ _ _ _
  go_enter Tryz.func21, Tryz.ntmps21
  go_wp2_with fail
  go_loop [3, 11] (fun u v => u = .int .i64 0 ∧ ∃ i : Nat, i ≤ 2 ∧ v = .int .i64 i) (fun _ v => 2 - (intOf v).toNat)
  case atStart => exact ⟨rfl, 0, by omega, rfl⟩
  case round =>
    obtain ⟨rfl, i, hi, rfl⟩ := hrel
    have : i = 0 ∨ i = 1 ∨ i = 2 := by omega
    rcases this with rfl | rfl | rfl
    · go_wp2_with fail
      go_round
      case rel => exact ⟨rfl, 1, by omega, rfl⟩
      case measure => simp [intOf]
    · go_wp2_with fail
      go_round
      case rel => exact ⟨rfl, 2, by omega, rfl⟩
      case measure => simp [intOf]
    · go_wp2_with (first | (go_at_call 63; (with_reducible refine (SG.out _).mono ?_); rintro e w1 ⟨rfl, rfl⟩))
      go_loop [6, 27] (fun u v => u = .slice none 0 0 ∧ ∃ i : Nat, i ≤ 2 ∧ v = .int .i64 i) (fun _ v => 2 - (intOf v).toNat)
      case atStart => exact ⟨rfl, 0, by omega, rfl⟩
      case round =>
        obtain ⟨rfl, i, hi, rfl⟩ := hrel
        have : i = 0 ∨ i = 1 ∨ i = 2 := by omega
        rcases this with rfl | rfl | rfl
        · go_wp2_with (at_builtin; refine Lib.wpList_append_run _ rfl _ _ _ _ rfl _ _ rfl rfl _ _ (run_app0 (HN.out _) _ _ _) ?_)
          go_round
          case rel => exact ⟨rfl, 1, by omega, rfl⟩
          case measure => simp [intOf]
        · go_wp2_with (at_builtin; refine Lib.wpList_append_run _ rfl _ _ _ _ rfl _ _ rfl rfl _ _ (run_app0 (HN.out _) _ _ _) ?_)
          go_round
          case rel => exact ⟨rfl, 2, by omega, rfl⟩
          case measure => simp [intOf]
        · go_wp2_with fail
          go_ret
          exact ⟨rfl, Below.refl _ _⟩
end Go.Proofs.YtfgakaielfekoaaGreatDoor

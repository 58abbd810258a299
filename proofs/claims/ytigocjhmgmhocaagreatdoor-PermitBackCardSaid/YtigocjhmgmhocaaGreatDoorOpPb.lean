/- What the listed variables give. -/
import Derived.Test.YtigocjhmgmhocaaGreatDoorRows
import Derived.Test.YtigocjhmgmhocaaGreatDoorStay
import Derived.Test.YtigocjhmgmhocaaGreatDoorOpPm
import Derived.Test.YtigocjhmgmhocaaGreatDoorEnv
import Derived.LaidMore
import Derived.Lay
import Derived.Stop.Joined
import Derived.Stop.LaidErr
import Derived.Lib.LaidTab
namespace Go.Proofs.YtigocjhmgmhocaaGreatDoor.permitBackRow
open Go.RowKit Go.WideShapes Go.ChangeShapes Go.ChangeAt Go.Deep Go.Joins
set_option linter.unusedVariables false
set_option linter.unusedSimpArgs false

theorem star_es : "*" ++ "errors.errorString" = "*errors.errorString" := by decide
theorem row_es (u : TypeId) (h : Tryz.prog.typeName? 3 u = some "*errors.errorString") : u = 178 :=
  typeName_ptr_named (nm := "errors.errorString") (by rw [star_es]; kernel_rfl) (by kernel_rfl) (by decide) u (by rw [star_es]; exact h)
set_option maxRecDepth 100000 in
/-- What the listed variables give. -/
theorem env_of_laid {W : World} (h : laidMetH Tryz.prog Rows.permitBackRow.laid W) : Env5 W := by
  rw [MakeChecks.laidMetH_plain _ _ _ (by kernel_rfl)] at h
  have h3 : laidMet Tryz.prog (("internal/strconv.uint64pow10", Lib.tabData .u64 Lib.pow10Tab) :: [("unicode/utf8.acceptRanges", Rows.laid_unicode_utf8_acceptRanges), ("strconv.ErrRange", Rows.laid_strconv_ErrRange), ("strconv.ErrSyntax", Rows.laid_strconv_ErrSyntax), ("unicode/utf8.first", Rows.laid_unicode_utf8_first)]) W := (h.tail).tail
  have ht := Lib.tabIs_of_head (g := 0) (t := 142) (e := 119) (n := 20) (by kernel_rfl) (by kernel_rfl) Tryz.underlying142 Tryz.underlying119 (by kernel_rfl) (by kernel_rfl) h3
  obtain ⟨a1, s1, hv1, _⟩ := laid_sentinel h3.tail.tail (g := 3) (ti := 55) (tp := 178) (te := 180) (ts := 9) (by kernel_rfl) (by kernel_rfl) Tryz.underlying55 row_es Tryz.underlying178 Tryz.underlying180 rfl rfl Tryz.underlying9 (by kernel_rfl) (by kernel_rfl)
  obtain ⟨a2, s2, hv2, _⟩ := laid_sentinel h3.tail.tail.tail (g := 2) (ti := 55) (tp := 178) (te := 180) (ts := 9) (by kernel_rfl) (by kernel_rfl) Tryz.underlying55 row_es Tryz.underlying178 Tryz.underlying180 rfl rfl Tryz.underlying9 (by kernel_rfl) (by kernel_rfl)
  exact ⟨ht, ⟨_, _, hv2⟩, ⟨_, _, hv1⟩⟩
/-- A start that meets the condition. -/
theorem door_met (os : Os) (args : Array Value) : laidMetH Tryz.prog Rows.permitBackRow.laid ((World.laidAll Tryz.prog os Rows.permitBackRow.laid).forCall (fun _ _ => 0) ⟨#[], args, []⟩).memory := by
  rw [MakeChecks.laidMetH_plain _ _ _ (by kernel_rfl)]
  exact laidMet_laidAll _ (by kernel_rfl) (by kernel_rfl)
end Go.Proofs.YtigocjhmgmhocaaGreatDoor.permitBackRow

/- What the listed variables give. -/
import Derived.Test.YtdgfljkhnifemaaGreatDoorRows
import Derived.Test.YtdgfljkhnifemaaGreatDoorStay
import Derived.Test.YtdgfljkhnifemaaGreatDoorOpenL
import Derived.Test.YtdgfljkhnifemaaGreatDoorMgB
import Derived.LaidMore
import Derived.Stop.Joined
import Derived.Stop.LaidErr
import Derived.Lib.LaidTab
namespace Go.Proofs.YtdgfljkhnifemaaGreatDoor.reportsCourses
open Go.RowKit Go.WideShapes Go.ChangeShapes Go.ChangeAt Go.Deep Go.Joins
set_option linter.unusedVariables false
set_option linter.unusedSimpArgs false

theorem star_es : "*" ++ "errors.errorString" = "*errors.errorString" := by decide
theorem row_es (u : TypeId) (h : Tryz.prog.typeName? 3 u = some "*errors.errorString") : u = 167 :=
  typeName_ptr_named (nm := "errors.errorString") (by rw [star_es]; kernel_rfl) (by kernel_rfl) (by decide) u (by rw [star_es]; exact h)
set_option maxRecDepth 100000 in
/-- What the listed variables give. -/
theorem env_of_laid {W : World} (h : laidMetH Tryz.prog Rows.reportsCoursesRow.laid W) : Env5 W := by
  rw [MakeChecks.laidMetH_plain _ _ _ (by kernel_rfl)] at h
  have h3 : laidMet Tryz.prog (("internal/strconv.uint64pow10", Lib.tabData .u64 Lib.pow10Tab) :: [("strconv.ErrRange", Rows.laid_strconv_ErrRange), ("strconv.ErrSyntax", Rows.laid_strconv_ErrSyntax)]) W := (h.tail).tail
  have ht := Lib.tabIs_of_head (g := 3) (t := 171) (e := 126) (n := 20) (by kernel_rfl) (by kernel_rfl) Tryz.underlying171 Tryz.underlying126 (by kernel_rfl) (by kernel_rfl) h3
  obtain ⟨a1, s1, hv1, _⟩ := laid_sentinel h3.tail (g := 2) (ti := 91) (tp := 167) (te := 169) (ts := 9) (by kernel_rfl) (by kernel_rfl) Tryz.underlying91 row_es Tryz.underlying167 Tryz.underlying169 rfl rfl Tryz.underlying9 (by kernel_rfl) (by kernel_rfl)
  obtain ⟨a2, s2, hv2, _⟩ := laid_sentinel h3.tail.tail (g := 1) (ti := 91) (tp := 167) (te := 169) (ts := 9) (by kernel_rfl) (by kernel_rfl) Tryz.underlying91 row_es Tryz.underlying167 Tryz.underlying169 rfl rfl Tryz.underlying9 (by kernel_rfl) (by kernel_rfl)
  exact ⟨ht, ⟨_, _, hv2⟩, ⟨_, _, hv1⟩⟩
/-- The door's own heap meets the condition. -/
theorem door_met (os : Os) (args : Array Value) : laidMetH Tryz.prog Rows.reportsCoursesRow.laid ((World.doorLaid Tryz.prog 4000 os).forCall (fun _ _ => 0) ⟨#[], args, []⟩).memory :=
  laidMetH_of_parts3 (fuel := 8) (laidMet_of_run' 8 (by kernel_rfl) (by kernel_rfl)) (by kernel_rfl) (by kernel_rfl)
end Go.Proofs.YtdgfljkhnifemaaGreatDoor.reportsCourses

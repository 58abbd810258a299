/-
  DERIVED. GIVEN WITH THE SEED: THE CARDS: each row of YtdgfljkhnifemaaGreatDoorRows.lean that lists a variable, with what it lists TIED to the program's text (the seventh form; the later family's looks); each row that meets fmt, with fmt's text TOLD by the authors' own Lean function (tested against real Go, not proved from fmt's source: count such statements apart). THE CARD IS WHAT COUNTS. Prove the row's statement (the work); the ties are given (YtdgfljkhnifemaaGreatDoorTie.lean); close each card by the builder's one call (the guide's Derived/Test/ToyasCard.lean, 'card_holds'). Laid BY PROGRAM, IN A SANDBOX (cutbox-door.mjs). By AI agents, Wed Nov 11 2026. No macro, syntax, notation, axiom, sorry.
-/
import Derived.Test.YtdgfljkhnifemaaGreatDoorRows
import GoSem.ClaimSeven
namespace Go.Proofs.YtdgfljkhnifemaaGreatDoor
namespace Rows

/-- THE TIED CARD OF 'sewershedlaw55.ReportsSections'. -/
def reportsSectionsCard : Claim7 := { stood := { row := reportsSectionsRow, standIns := [], harness := (true, "e69f8d5f748d0fc7b3eaf61dfa104e98a74d2a0567923622b7cfced5cbae2c80"), looks := true }, kinds := [], alts := [], laidByText := true, laidKinds := [.data, .data, .data, .sentinel, .sentinel], laidTests := true, laidLooks := .later }
def ReportsSectionsCardSaid : Prop := Claim7.holds Tryz.pinned (.plain (OpenSpec.ofChange reportsSectionsSpec)) reportsSectionsCard

/-- THE TIED CARD OF 'sewershedlaw55.ReportsCourses'. -/
def reportsCoursesCard : Claim7 := { stood := { row := reportsCoursesRow, standIns := [], harness := (true, "e69f8d5f748d0fc7b3eaf61dfa104e98a74d2a0567923622b7cfced5cbae2c80"), looks := true }, kinds := [], alts := [], laidByText := true, laidKinds := [.data, .data, .data, .sentinel, .sentinel], laidTests := true, laidLooks := .later }
def ReportsCoursesCardSaid : Prop := Claim7.holds Tryz.pinned (.plain (OpenSpec.ofChange reportsCoursesSpec)) reportsCoursesCard

/-- THE SECOND FORM's CARD OF 'sewershedlaw55.ReportsSections'. -/
def reportsSectionsUptoCard : Claim7 := { stood := { row := reportsSectionsUptoRow, standIns := [], harness := (true, "e69f8d5f748d0fc7b3eaf61dfa104e98a74d2a0567923622b7cfced5cbae2c80"), looks := true }, kinds := [], alts := [], laidByText := true, laidKinds := [.data, .data, .data, .sentinel, .sentinel], laidTests := true, laidLooks := .later }
def ReportsSectionsUptoCardSaid : Prop := Claim7.holds Tryz.pinned (.plain (OpenSpec.upto reportsSectionsSpec)) reportsSectionsUptoCard

/-- THE SECOND FORM's CARD OF 'sewershedlaw55.ReportsCourses'. -/
def reportsCoursesUptoCard : Claim7 := { stood := { row := reportsCoursesUptoRow, standIns := [], harness := (true, "e69f8d5f748d0fc7b3eaf61dfa104e98a74d2a0567923622b7cfced5cbae2c80"), looks := true }, kinds := [], alts := [], laidByText := true, laidKinds := [.data, .data, .data, .sentinel, .sentinel], laidTests := true, laidLooks := .later }
def ReportsCoursesUptoCardSaid : Prop := Claim7.holds Tryz.pinned (.plain (OpenSpec.upto reportsCoursesSpec)) reportsCoursesUptoCard
end Rows
end Go.Proofs.YtdgfljkhnifemaaGreatDoor

/-
  DERIVED. GIVEN WITH THE SEED: THE CARDS: each row of YtfgakaielfekoaaGreatDoorRows.lean that lists a variable, with what it lists TIED to the program's text (the seventh form; the later family's looks); each row that meets fmt, with fmt's text TOLD by the authors' own Lean function (tested against real Go, not proved from fmt's source: count such statements apart). THE CARD IS WHAT COUNTS. Prove the row's statement (the work); the ties are given (YtfgakaielfekoaaGreatDoorTie.lean); close each card by the builder's one call (the guide's Derived/Test/ToyasCard.lean, 'card_holds'). Laid BY PROGRAM, IN A SANDBOX (cutbox-door.mjs). By AI agents, Wed Nov 11 2026. No macro, syntax, notation, axiom, sorry.
-/
import Derived.Test.YtfgakaielfekoaaGreatDoorRows
import GoSem.ClaimSeven
namespace Go.Proofs.YtfgakaielfekoaaGreatDoor
namespace Rows

/-- THE TIED CARD OF 'sewershedlaw55.ReportsSections'. -/
def reportsSectionsCard : Claim7 := { stood := { row := reportsSectionsRow, standIns := [], harness := (true, "d62d769413b92fc22c90913e4a5188ee71800b6eb19b771ebad6062e0dde2c88"), looks := true }, kinds := [], alts := [], laidByText := true, laidKinds := [.data, .data, .data, .sentinel, .sentinel], laidTests := true, laidLooks := .later }
def ReportsSectionsCardSaid : Prop := Claim7.holds Tryz.pinned (.plain (OpenSpec.ofChange reportsSectionsSpec)) reportsSectionsCard

/-- THE TIED CARD OF 'sewershedlaw55.ReportsSame'. -/
def reportsSameCard : Claim7 := { stood := { row := reportsSameRow, standIns := [], harness := (true, "d62d769413b92fc22c90913e4a5188ee71800b6eb19b771ebad6062e0dde2c88"), looks := true }, kinds := [], alts := [], laidByText := true, laidKinds := [.data, .data, .data, .sentinel, .sentinel], laidTests := true, laidLooks := .later }
def ReportsSameCardSaid : Prop := Claim7.holds Tryz.pinned (.plain (OpenSpec.ofChange reportsSameSpec)) reportsSameCard

/-- THE TIED CARD OF 'sewershedlaw55.ReportsCounts'. -/
def reportsCountsCard : Claim7 := { stood := { row := reportsCountsRow, standIns := [], harness := (true, "d62d769413b92fc22c90913e4a5188ee71800b6eb19b771ebad6062e0dde2c88"), looks := true }, kinds := [], alts := [], laidByText := true, laidKinds := [.data, .data, .data, .sentinel, .sentinel], laidTests := true, laidLooks := .later }
def ReportsCountsCardSaid : Prop := Claim7.holds Tryz.pinned (.plain (OpenSpec.ofChange reportsCountsSpec)) reportsCountsCard

/-- THE TIED CARD OF 'sewershedlaw55.ReportsRead'. -/
def reportsReadCard : Claim7 := { stood := { row := reportsReadRow, standIns := [], harness := (true, "d62d769413b92fc22c90913e4a5188ee71800b6eb19b771ebad6062e0dde2c88"), looks := true }, kinds := [], alts := [], laidByText := true, laidKinds := [.data, .data, .data, .sentinel, .sentinel], laidTests := true, laidLooks := .later }
def ReportsReadCardSaid : Prop := Claim7.holds Tryz.pinned (.plain (OpenSpec.ofChange reportsReadSpec)) reportsReadCard

/-- THE TIED CARD OF 'sewershedlaw55.ReportsCourses'. -/
def reportsCoursesCard : Claim7 := { stood := { row := reportsCoursesRow, standIns := [], harness := (true, "d62d769413b92fc22c90913e4a5188ee71800b6eb19b771ebad6062e0dde2c88"), looks := true }, kinds := [], alts := [], laidByText := true, laidKinds := [.data, .data, .data, .sentinel, .sentinel], laidTests := true, laidLooks := .later }
def ReportsCoursesCardSaid : Prop := Claim7.holds Tryz.pinned (.plain (OpenSpec.ofChange reportsCoursesSpec)) reportsCoursesCard

/-- THE SECOND FORM's CARD OF 'sewershedlaw55.ReportsSections'. -/
def reportsSectionsUptoCard : Claim7 := { stood := { row := reportsSectionsUptoRow, standIns := [], harness := (true, "d62d769413b92fc22c90913e4a5188ee71800b6eb19b771ebad6062e0dde2c88"), looks := true }, kinds := [], alts := [], laidByText := true, laidKinds := [.data, .data, .data, .sentinel, .sentinel], laidTests := true, laidLooks := .later }
def ReportsSectionsUptoCardSaid : Prop := Claim7.holds Tryz.pinned (.plain (OpenSpec.upto reportsSectionsSpec)) reportsSectionsUptoCard

/-- THE SECOND FORM's CARD OF 'sewershedlaw55.ReportsSame'. -/
def reportsSameUptoCard : Claim7 := { stood := { row := reportsSameUptoRow, standIns := [], harness := (true, "d62d769413b92fc22c90913e4a5188ee71800b6eb19b771ebad6062e0dde2c88"), looks := true }, kinds := [], alts := [], laidByText := true, laidKinds := [.data, .data, .data, .sentinel, .sentinel], laidTests := true, laidLooks := .later }
def ReportsSameUptoCardSaid : Prop := Claim7.holds Tryz.pinned (.plain (OpenSpec.upto reportsSameSpec)) reportsSameUptoCard

/-- THE SECOND FORM's CARD OF 'sewershedlaw55.ReportsCounts'. -/
def reportsCountsUptoCard : Claim7 := { stood := { row := reportsCountsUptoRow, standIns := [], harness := (true, "d62d769413b92fc22c90913e4a5188ee71800b6eb19b771ebad6062e0dde2c88"), looks := true }, kinds := [], alts := [], laidByText := true, laidKinds := [.data, .data, .data, .sentinel, .sentinel], laidTests := true, laidLooks := .later }
def ReportsCountsUptoCardSaid : Prop := Claim7.holds Tryz.pinned (.plain (OpenSpec.upto reportsCountsSpec)) reportsCountsUptoCard

/-- THE SECOND FORM's CARD OF 'sewershedlaw55.ReportsRead'. -/
def reportsReadUptoCard : Claim7 := { stood := { row := reportsReadUptoRow, standIns := [], harness := (true, "d62d769413b92fc22c90913e4a5188ee71800b6eb19b771ebad6062e0dde2c88"), looks := true }, kinds := [], alts := [], laidByText := true, laidKinds := [.data, .data, .data, .sentinel, .sentinel], laidTests := true, laidLooks := .later }
def ReportsReadUptoCardSaid : Prop := Claim7.holds Tryz.pinned (.plain (OpenSpec.upto reportsReadSpec)) reportsReadUptoCard

/-- THE SECOND FORM's CARD OF 'sewershedlaw55.ReportsCourses'. -/
def reportsCoursesUptoCard : Claim7 := { stood := { row := reportsCoursesUptoRow, standIns := [], harness := (true, "d62d769413b92fc22c90913e4a5188ee71800b6eb19b771ebad6062e0dde2c88"), looks := true }, kinds := [], alts := [], laidByText := true, laidKinds := [.data, .data, .data, .sentinel, .sentinel], laidTests := true, laidLooks := .later }
def ReportsCoursesUptoCardSaid : Prop := Claim7.holds Tryz.pinned (.plain (OpenSpec.upto reportsCoursesSpec)) reportsCoursesUptoCard
end Rows
end Go.Proofs.YtfgakaielfekoaaGreatDoor

/-
  DERIVED. GIVEN WITH THE SEED: THE CARDS: each row of YtfldmnikdejekaaGreatDoorRows.lean that lists a variable, with what it lists TIED to the program's text (the seventh form; the later family's looks); each row that meets fmt, with fmt's text TOLD by the authors' own Lean function (tested against real Go, not proved from fmt's source: count such statements apart). THE CARD IS WHAT COUNTS. Prove the row's statement (the work); the ties are given (YtfldmnikdejekaaGreatDoorTie.lean); close each card by the builder's one call (the guide's Derived/Test/ToyasCard.lean, 'card_holds'). Laid BY PROGRAM, IN A SANDBOX (cutbox-door.mjs). By AI agents, Wed Nov 11 2026. No macro, syntax, notation, axiom, sorry.
-/
import Derived.Test.YtfldmnikdejekaaGreatDoorRows
import GoSem.ClaimSeven
namespace Go.Proofs.YtfldmnikdejekaaGreatDoor
namespace Rows

/-- THE TIED CARD OF 'sewershedlaw55.ReportsSections'. -/
def reportsSectionsCard : Claim7 := { stood := { row := reportsSectionsRow, standIns := [], harness := (true, "957afbfef210e8e999d25d8ad3bfd1d17f21f7a6544419632c3dbf18381f6cb3"), looks := true }, kinds := [], alts := [], laidByText := true, laidKinds := [.data, .data, .data, .sentinel, .sentinel], laidTests := true, laidLooks := .later }
def ReportsSectionsCardSaid : Prop := Claim7.holds Tryz.pinned (.plain (OpenSpec.ofChange reportsSectionsSpec)) reportsSectionsCard

/-- THE TIED CARD OF 'sewershedlaw55.ReportsSame'. -/
def reportsSameCard : Claim7 := { stood := { row := reportsSameRow, standIns := [], harness := (true, "957afbfef210e8e999d25d8ad3bfd1d17f21f7a6544419632c3dbf18381f6cb3"), looks := true }, kinds := [], alts := [], laidByText := true, laidKinds := [.data, .data, .data, .sentinel, .sentinel], laidTests := true, laidLooks := .later }
def ReportsSameCardSaid : Prop := Claim7.holds Tryz.pinned (.plain (OpenSpec.ofChange reportsSameSpec)) reportsSameCard

/-- THE TIED CARD OF 'sewershedlaw55.ReportsCounts'. -/
def reportsCountsCard : Claim7 := { stood := { row := reportsCountsRow, standIns := [], harness := (true, "957afbfef210e8e999d25d8ad3bfd1d17f21f7a6544419632c3dbf18381f6cb3"), looks := true }, kinds := [], alts := [], laidByText := true, laidKinds := [.data, .data, .data, .sentinel, .sentinel], laidTests := true, laidLooks := .later }
def ReportsCountsCardSaid : Prop := Claim7.holds Tryz.pinned (.plain (OpenSpec.ofChange reportsCountsSpec)) reportsCountsCard

/-- THE TIED CARD OF 'sewershedlaw55.ReportsRead'. -/
def reportsReadCard : Claim7 := { stood := { row := reportsReadRow, standIns := [], harness := (true, "957afbfef210e8e999d25d8ad3bfd1d17f21f7a6544419632c3dbf18381f6cb3"), looks := true }, kinds := [], alts := [], laidByText := true, laidKinds := [.data, .data, .data, .sentinel, .sentinel], laidTests := true, laidLooks := .later }
def ReportsReadCardSaid : Prop := Claim7.holds Tryz.pinned (.plain (OpenSpec.ofChange reportsReadSpec)) reportsReadCard

/-- THE TIED CARD OF 'sewershedlaw55.ReportsCourses'. -/
def reportsCoursesCard : Claim7 := { stood := { row := reportsCoursesRow, standIns := [], harness := (true, "957afbfef210e8e999d25d8ad3bfd1d17f21f7a6544419632c3dbf18381f6cb3"), looks := true }, kinds := [], alts := [], laidByText := true, laidKinds := [.data, .data, .data, .sentinel, .sentinel], laidTests := true, laidLooks := .later }
def ReportsCoursesCardSaid : Prop := Claim7.holds Tryz.pinned (.plain (OpenSpec.ofChange reportsCoursesSpec)) reportsCoursesCard

/-- THE TIED CARD OF 'sewershedlaw55.ReportsPermits'. -/
def reportsPermitsCard : Claim7 := { stood := { row := reportsPermitsRow, standIns := [], harness := (true, "957afbfef210e8e999d25d8ad3bfd1d17f21f7a6544419632c3dbf18381f6cb3"), looks := true }, kinds := [], alts := [], laidByText := true, laidKinds := [.data, .data, .data, .sentinel, .sentinel], laidTests := true, laidLooks := .later }
def ReportsPermitsCardSaid : Prop := Claim7.holds Tryz.pinned (.plain (OpenSpec.ofChange reportsPermitsSpec)) reportsPermitsCard

/-- THE TIED CARD OF 'sewershedlaw39.PermitTexts'. -/
def permitTextsCard : Claim7 := { stood := { row := permitTextsRow, standIns := [], harness := (true, "957afbfef210e8e999d25d8ad3bfd1d17f21f7a6544419632c3dbf18381f6cb3"), looks := true }, kinds := [], alts := [], laidByText := true, laidKinds := [.data, .data, .data, .data, .sentinel, .sentinel, .pinned], laidTests := true, laidLooks := .later }
def PermitTextsCardSaid : Prop := Claim7.holds Tryz.pinned (.plain (OpenSpec.ofChange permitTextsSpec)) permitTextsCard

/-- THE TIED CARD OF 'sewershedlaw39.PermitBack'. -/
def permitBackCard : Claim7 := { stood := { row := permitBackRow, standIns := [], harness := (true, "957afbfef210e8e999d25d8ad3bfd1d17f21f7a6544419632c3dbf18381f6cb3"), looks := true }, kinds := [], alts := [], laidByText := true, laidKinds := [.data, .data, .data, .data, .sentinel, .sentinel, .pinned], laidTests := true, laidLooks := .later }
def PermitBackCardSaid : Prop := Claim7.holds Tryz.pinned (.plain (OpenSpec.ofChange permitBackSpec)) permitBackCard

/-- THE SECOND FORM's CARD OF 'sewershedlaw55.ReportsSections'. -/
def reportsSectionsUptoCard : Claim7 := { stood := { row := reportsSectionsUptoRow, standIns := [], harness := (true, "957afbfef210e8e999d25d8ad3bfd1d17f21f7a6544419632c3dbf18381f6cb3"), looks := true }, kinds := [], alts := [], laidByText := true, laidKinds := [.data, .data, .data, .sentinel, .sentinel], laidTests := true, laidLooks := .later }
def ReportsSectionsUptoCardSaid : Prop := Claim7.holds Tryz.pinned (.plain (OpenSpec.upto reportsSectionsSpec)) reportsSectionsUptoCard

/-- THE SECOND FORM's CARD OF 'sewershedlaw55.ReportsSame'. -/
def reportsSameUptoCard : Claim7 := { stood := { row := reportsSameUptoRow, standIns := [], harness := (true, "957afbfef210e8e999d25d8ad3bfd1d17f21f7a6544419632c3dbf18381f6cb3"), looks := true }, kinds := [], alts := [], laidByText := true, laidKinds := [.data, .data, .data, .sentinel, .sentinel], laidTests := true, laidLooks := .later }
def ReportsSameUptoCardSaid : Prop := Claim7.holds Tryz.pinned (.plain (OpenSpec.upto reportsSameSpec)) reportsSameUptoCard

/-- THE SECOND FORM's CARD OF 'sewershedlaw55.ReportsCounts'. -/
def reportsCountsUptoCard : Claim7 := { stood := { row := reportsCountsUptoRow, standIns := [], harness := (true, "957afbfef210e8e999d25d8ad3bfd1d17f21f7a6544419632c3dbf18381f6cb3"), looks := true }, kinds := [], alts := [], laidByText := true, laidKinds := [.data, .data, .data, .sentinel, .sentinel], laidTests := true, laidLooks := .later }
def ReportsCountsUptoCardSaid : Prop := Claim7.holds Tryz.pinned (.plain (OpenSpec.upto reportsCountsSpec)) reportsCountsUptoCard

/-- THE SECOND FORM's CARD OF 'sewershedlaw55.ReportsRead'. -/
def reportsReadUptoCard : Claim7 := { stood := { row := reportsReadUptoRow, standIns := [], harness := (true, "957afbfef210e8e999d25d8ad3bfd1d17f21f7a6544419632c3dbf18381f6cb3"), looks := true }, kinds := [], alts := [], laidByText := true, laidKinds := [.data, .data, .data, .sentinel, .sentinel], laidTests := true, laidLooks := .later }
def ReportsReadUptoCardSaid : Prop := Claim7.holds Tryz.pinned (.plain (OpenSpec.upto reportsReadSpec)) reportsReadUptoCard

/-- THE SECOND FORM's CARD OF 'sewershedlaw55.ReportsCourses'. -/
def reportsCoursesUptoCard : Claim7 := { stood := { row := reportsCoursesUptoRow, standIns := [], harness := (true, "957afbfef210e8e999d25d8ad3bfd1d17f21f7a6544419632c3dbf18381f6cb3"), looks := true }, kinds := [], alts := [], laidByText := true, laidKinds := [.data, .data, .data, .sentinel, .sentinel], laidTests := true, laidLooks := .later }
def ReportsCoursesUptoCardSaid : Prop := Claim7.holds Tryz.pinned (.plain (OpenSpec.upto reportsCoursesSpec)) reportsCoursesUptoCard

/-- THE SECOND FORM's CARD OF 'sewershedlaw55.ReportsPermits'. -/
def reportsPermitsUptoCard : Claim7 := { stood := { row := reportsPermitsUptoRow, standIns := [], harness := (true, "957afbfef210e8e999d25d8ad3bfd1d17f21f7a6544419632c3dbf18381f6cb3"), looks := true }, kinds := [], alts := [], laidByText := true, laidKinds := [.data, .data, .data, .sentinel, .sentinel], laidTests := true, laidLooks := .later }
def ReportsPermitsUptoCardSaid : Prop := Claim7.holds Tryz.pinned (.plain (OpenSpec.upto reportsPermitsSpec)) reportsPermitsUptoCard

/-- THE SECOND FORM's CARD OF 'sewershedlaw39.PermitTexts'. -/
def permitTextsUptoCard : Claim7 := { stood := { row := permitTextsUptoRow, standIns := [], harness := (true, "957afbfef210e8e999d25d8ad3bfd1d17f21f7a6544419632c3dbf18381f6cb3"), looks := true }, kinds := [], alts := [], laidByText := true, laidKinds := [.data, .data, .data, .data, .sentinel, .sentinel, .pinned], laidTests := true, laidLooks := .later }
def PermitTextsUptoCardSaid : Prop := Claim7.holds Tryz.pinned (.plain (OpenSpec.upto permitTextsSpec)) permitTextsUptoCard

/-- THE SECOND FORM's CARD OF 'sewershedlaw39.PermitBack'. -/
def permitBackUptoCard : Claim7 := { stood := { row := permitBackUptoRow, standIns := [], harness := (true, "957afbfef210e8e999d25d8ad3bfd1d17f21f7a6544419632c3dbf18381f6cb3"), looks := true }, kinds := [], alts := [], laidByText := true, laidKinds := [.data, .data, .data, .data, .sentinel, .sentinel, .pinned], laidTests := true, laidLooks := .later }
def PermitBackUptoCardSaid : Prop := Claim7.holds Tryz.pinned (.plain (OpenSpec.upto permitBackSpec)) permitBackUptoCard
end Rows
end Go.Proofs.YtfldmnikdejekaaGreatDoor

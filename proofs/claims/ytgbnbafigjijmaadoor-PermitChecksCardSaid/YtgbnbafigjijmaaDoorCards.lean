/-
  DERIVED. GIVEN WITH THE SEED: THE CARDS: each row of YtgbnbafigjijmaaDoorRows.lean that lists a variable, with what it lists TIED to the program's text (the seventh form; the later family's looks); each row that meets fmt, with fmt's text TOLD by the authors' own Lean function (tested against real Go, not proved from fmt's source: count such statements apart). THE CARD IS WHAT COUNTS. Prove the row's statement (the work); the ties are given (YtgbnbafigjijmaaDoorTie.lean); close each card by the builder's one call (the guide's Derived/Test/ToyasCard.lean, 'card_holds'). Laid BY PROGRAM, IN A SANDBOX (cutbox-door.mjs). By AI agents, Wed Nov 11 2026. No macro, syntax, notation, axiom, sorry.
-/
import Derived.Test.YtgbnbafigjijmaaDoorRows
import GoSem.ClaimSeven
namespace Go.Proofs.YtgbnbafigjijmaaDoor
namespace Rows

/-- THE TIED CARD OF 'sewershedlaw39.PermitYears'. -/
def permitYearsCard : Claim7 := { stood := { row := permitYearsRow, standIns := [], harness := (true, "79273579efe7e4d3d2d60e722d8a55296f87c2c6b27621eb0d9582344b7ae848"), looks := false }, kinds := [], alts := [], laidByText := true, laidKinds := [.data, .data, .data], laidTests := true, laidLooks := .later }
def PermitYearsCardSaid : Prop := Claim7.holds Tryd.pinned (.plain (OpenSpec.ofChange permitYearsSpec)) permitYearsCard

/-- THE TIED CARD OF 'sewershedlaw39.PermitChecks'. -/
def permitChecksCard : Claim7 := { stood := { row := permitChecksRow, standIns := [], harness := (true, "79273579efe7e4d3d2d60e722d8a55296f87c2c6b27621eb0d9582344b7ae848"), looks := false }, kinds := [], alts := [], laidByText := true, laidKinds := [.data, .data, .data], laidTests := true, laidLooks := .later }
def PermitChecksCardSaid : Prop := Claim7.holds Tryd.pinned (.plain (OpenSpec.ofChange permitChecksSpec)) permitChecksCard

/-- THE TIED CARD OF 'sewershedlaw39.PermitRests'. -/
def permitRestsCard : Claim7 := { stood := { row := permitRestsRow, standIns := [], harness := (true, "79273579efe7e4d3d2d60e722d8a55296f87c2c6b27621eb0d9582344b7ae848"), looks := false }, kinds := [], alts := [], laidByText := true, laidKinds := [.data, .data, .data], laidTests := true, laidLooks := .later }
def PermitRestsCardSaid : Prop := Claim7.holds Tryd.pinned (.plain (OpenSpec.ofChange permitRestsSpec)) permitRestsCard

/-- THE TIED CARD OF 'sewershedlaw39.PermitBroken'. -/
def permitBrokenCard : Claim7 := { stood := { row := permitBrokenRow, standIns := [], harness := (true, "79273579efe7e4d3d2d60e722d8a55296f87c2c6b27621eb0d9582344b7ae848"), looks := false }, kinds := [], alts := [], laidByText := true, laidKinds := [.data, .data, .data], laidTests := true, laidLooks := .later }
def PermitBrokenCardSaid : Prop := Claim7.holds Tryd.pinned (.plain (OpenSpec.ofChange permitBrokenSpec)) permitBrokenCard

/-- THE TIED CARD OF 'sewershedlaw39.PermitLeft'. -/
def permitLeftCard : Claim7 := { stood := { row := permitLeftRow, standIns := [], harness := (true, "79273579efe7e4d3d2d60e722d8a55296f87c2c6b27621eb0d9582344b7ae848"), looks := false }, kinds := [], alts := [], laidByText := true, laidKinds := [.data, .data, .data], laidTests := true, laidLooks := .later }
def PermitLeftCardSaid : Prop := Claim7.holds Tryd.pinned (.plain (OpenSpec.ofChange permitLeftSpec)) permitLeftCard

/-- THE TIED CARD OF 'sewershedlaw39.PermitMerged'. -/
def permitMergedCard : Claim7 := { stood := { row := permitMergedRow, standIns := [], harness := (true, "79273579efe7e4d3d2d60e722d8a55296f87c2c6b27621eb0d9582344b7ae848"), looks := false }, kinds := [], alts := [], laidByText := true, laidKinds := [.data, .data, .data], laidTests := true, laidLooks := .later }
def PermitMergedCardSaid : Prop := Claim7.holds Tryd.pinned (.plain (OpenSpec.ofChange permitMergedSpec)) permitMergedCard

/-- THE SECOND FORM's CARD OF 'sewershedlaw39.PermitYears'. -/
def permitYearsUptoCard : Claim7 := { stood := { row := permitYearsUptoRow, standIns := [], harness := (true, "79273579efe7e4d3d2d60e722d8a55296f87c2c6b27621eb0d9582344b7ae848"), looks := false }, kinds := [], alts := [], laidByText := true, laidKinds := [.data, .data, .data], laidTests := true, laidLooks := .later }
def PermitYearsUptoCardSaid : Prop := Claim7.holds Tryd.pinned (.plain (OpenSpec.upto permitYearsSpec)) permitYearsUptoCard

/-- THE SECOND FORM's CARD OF 'sewershedlaw39.PermitChecks'. -/
def permitChecksUptoCard : Claim7 := { stood := { row := permitChecksUptoRow, standIns := [], harness := (true, "79273579efe7e4d3d2d60e722d8a55296f87c2c6b27621eb0d9582344b7ae848"), looks := false }, kinds := [], alts := [], laidByText := true, laidKinds := [.data, .data, .data], laidTests := true, laidLooks := .later }
def PermitChecksUptoCardSaid : Prop := Claim7.holds Tryd.pinned (.plain (OpenSpec.upto permitChecksSpec)) permitChecksUptoCard

/-- THE SECOND FORM's CARD OF 'sewershedlaw39.PermitRests'. -/
def permitRestsUptoCard : Claim7 := { stood := { row := permitRestsUptoRow, standIns := [], harness := (true, "79273579efe7e4d3d2d60e722d8a55296f87c2c6b27621eb0d9582344b7ae848"), looks := false }, kinds := [], alts := [], laidByText := true, laidKinds := [.data, .data, .data], laidTests := true, laidLooks := .later }
def PermitRestsUptoCardSaid : Prop := Claim7.holds Tryd.pinned (.plain (OpenSpec.upto permitRestsSpec)) permitRestsUptoCard

/-- THE SECOND FORM's CARD OF 'sewershedlaw39.PermitBroken'. -/
def permitBrokenUptoCard : Claim7 := { stood := { row := permitBrokenUptoRow, standIns := [], harness := (true, "79273579efe7e4d3d2d60e722d8a55296f87c2c6b27621eb0d9582344b7ae848"), looks := false }, kinds := [], alts := [], laidByText := true, laidKinds := [.data, .data, .data], laidTests := true, laidLooks := .later }
def PermitBrokenUptoCardSaid : Prop := Claim7.holds Tryd.pinned (.plain (OpenSpec.upto permitBrokenSpec)) permitBrokenUptoCard

/-- THE SECOND FORM's CARD OF 'sewershedlaw39.PermitLeft'. -/
def permitLeftUptoCard : Claim7 := { stood := { row := permitLeftUptoRow, standIns := [], harness := (true, "79273579efe7e4d3d2d60e722d8a55296f87c2c6b27621eb0d9582344b7ae848"), looks := false }, kinds := [], alts := [], laidByText := true, laidKinds := [.data, .data, .data], laidTests := true, laidLooks := .later }
def PermitLeftUptoCardSaid : Prop := Claim7.holds Tryd.pinned (.plain (OpenSpec.upto permitLeftSpec)) permitLeftUptoCard

/-- THE SECOND FORM's CARD OF 'sewershedlaw39.PermitMerged'. -/
def permitMergedUptoCard : Claim7 := { stood := { row := permitMergedUptoRow, standIns := [], harness := (true, "79273579efe7e4d3d2d60e722d8a55296f87c2c6b27621eb0d9582344b7ae848"), looks := false }, kinds := [], alts := [], laidByText := true, laidKinds := [.data, .data, .data], laidTests := true, laidLooks := .later }
def PermitMergedUptoCardSaid : Prop := Claim7.holds Tryd.pinned (.plain (OpenSpec.upto permitMergedSpec)) permitMergedUptoCard
end Rows
end Go.Proofs.YtgbnbafigjijmaaDoor

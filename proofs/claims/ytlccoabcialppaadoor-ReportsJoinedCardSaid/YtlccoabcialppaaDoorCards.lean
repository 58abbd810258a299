/-
  DERIVED. GIVEN WITH THE SEED: THE CARDS: each row of YtlccoabcialppaaDoorRows.lean that lists a variable, with what it lists TIED to the program's text (the seventh form; the later family's looks); each row that meets fmt, with fmt's text TOLD by the authors' own Lean function (tested against real Go, not proved from fmt's source: count such statements apart). THE CARD IS WHAT COUNTS. Prove the row's statement (the work); the ties are given (YtlccoabcialppaaDoorTie.lean); close each card by the builder's one call (the guide's Derived/Test/ToyasCard.lean, 'card_holds'). Laid BY PROGRAM, IN A SANDBOX (cutbox-door.mjs). By AI agents, Wed Nov 11 2026. No macro, syntax, notation, axiom, sorry.
-/
import Derived.Test.YtlccoabcialppaaDoorRows
import GoSem.ClaimSeven
namespace Go.Proofs.YtlccoabcialppaaDoor
namespace Rows

/-- THE TIED CARD OF 'sewershedlaw55.ReportsTexts'. -/
def reportsTextsCard : Claim7 := { stood := { row := reportsTextsRow, standIns := [], harness := (true, "c952ceadb9fe553bb6b6b3d7e98a8892dc167bc70fc25ad88efe0529b7dc9176"), looks := true }, kinds := [], alts := [], laidByText := true, laidKinds := [.data, .data, .data, .sentinel, .sentinel], laidTests := true, laidLooks := .later }
def ReportsTextsCardSaid : Prop := Claim7.holds Tryd.pinned (.plain (OpenSpec.ofChange reportsTextsSpec)) reportsTextsCard

/-- THE TIED CARD OF 'sewershedlaw55.ReportsJoined'. -/
def reportsJoinedCard : Claim7 := { stood := { row := reportsJoinedRow, standIns := [], harness := (true, "c952ceadb9fe553bb6b6b3d7e98a8892dc167bc70fc25ad88efe0529b7dc9176"), looks := true }, kinds := [], alts := [], laidByText := true, laidKinds := [.data, .data, .data, .sentinel, .sentinel], laidTests := true, laidLooks := .later }
def ReportsJoinedCardSaid : Prop := Claim7.holds Tryd.pinned (.plain (OpenSpec.ofChange reportsJoinedSpec)) reportsJoinedCard

/-- THE SECOND FORM's CARD OF 'sewershedlaw55.ReportsTexts'. -/
def reportsTextsUptoCard : Claim7 := { stood := { row := reportsTextsUptoRow, standIns := [], harness := (true, "c952ceadb9fe553bb6b6b3d7e98a8892dc167bc70fc25ad88efe0529b7dc9176"), looks := true }, kinds := [], alts := [], laidByText := true, laidKinds := [.data, .data, .data, .sentinel, .sentinel], laidTests := true, laidLooks := .later }
def ReportsTextsUptoCardSaid : Prop := Claim7.holds Tryd.pinned (.plain (OpenSpec.upto reportsTextsSpec)) reportsTextsUptoCard

/-- THE SECOND FORM's CARD OF 'sewershedlaw55.ReportsJoined'. -/
def reportsJoinedUptoCard : Claim7 := { stood := { row := reportsJoinedUptoRow, standIns := [], harness := (true, "c952ceadb9fe553bb6b6b3d7e98a8892dc167bc70fc25ad88efe0529b7dc9176"), looks := true }, kinds := [], alts := [], laidByText := true, laidKinds := [.data, .data, .data, .sentinel, .sentinel], laidTests := true, laidLooks := .later }
def ReportsJoinedUptoCardSaid : Prop := Claim7.holds Tryd.pinned (.plain (OpenSpec.upto reportsJoinedSpec)) reportsJoinedUptoCard
end Rows
end Go.Proofs.YtlccoabcialppaaDoor

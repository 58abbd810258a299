/-
  DERIVED. GIVEN WITH THE SEED: THE CARDS: each row of YtapfmbnppeonkaaGreatDoorRows.lean that lists a variable, with what it lists TIED to the program's text (the seventh form; the later family's looks); each row that meets fmt, with fmt's text TOLD by the authors' own Lean function (tested against real Go, not proved from fmt's source: count such statements apart). THE CARD IS WHAT COUNTS. Prove the row's statement (the work); the ties are given (YtapfmbnppeonkaaGreatDoorTie.lean); close each card by the builder's one call (the guide's Derived/Test/ToyasCard.lean, 'card_holds'). Laid BY PROGRAM, IN A SANDBOX (cutbox-door.mjs). By AI agents, Wed Nov 11 2026. No macro, syntax, notation, axiom, sorry.
-/
import Derived.Test.YtapfmbnppeonkaaGreatDoorRows
import GoSem.ClaimSeven
namespace Go.Proofs.YtapfmbnppeonkaaGreatDoor
namespace Rows

/-- THE TIED CARD OF 'sewershedlaw06.TableTexts'. -/
def tableTextsCard : Claim7 := { stood := { row := tableTextsRow, standIns := [], harness := (true, "3e8c487fcc6b6865efef38c8c2e1f2162146817ecf6a806e42198ae0c599b151"), looks := true }, kinds := [], alts := [], laidByText := true, laidKinds := [.data, .data, .data, .data, .sentinel, .sentinel, .pinned], laidTests := true, laidLooks := .later }
def TableTextsCardSaid : Prop := Claim7.holds Tryz.pinned (.plain (OpenSpec.ofChange tableTextsSpec)) tableTextsCard

/-- THE SECOND FORM's CARD OF 'sewershedlaw06.TableTexts'. -/
def tableTextsUptoCard : Claim7 := { stood := { row := tableTextsUptoRow, standIns := [], harness := (true, "3e8c487fcc6b6865efef38c8c2e1f2162146817ecf6a806e42198ae0c599b151"), looks := true }, kinds := [], alts := [], laidByText := true, laidKinds := [.data, .data, .data, .data, .sentinel, .sentinel, .pinned], laidTests := true, laidLooks := .later }
def TableTextsUptoCardSaid : Prop := Claim7.holds Tryz.pinned (.plain (OpenSpec.upto tableTextsSpec)) tableTextsUptoCard
end Rows
end Go.Proofs.YtapfmbnppeonkaaGreatDoor

/-
  DERIVED. GIVEN WITH THE SEED: THE CARDS: each row of YtigocjhmgmhocaaGreatDoorRows.lean that lists a variable, with what it lists TIED to the program's text (the seventh form; the later family's looks); each row that meets fmt, with fmt's text TOLD by the authors' own Lean function (tested against real Go, not proved from fmt's source: count such statements apart). THE CARD IS WHAT COUNTS. Prove the row's statement (the work); the ties are given (YtigocjhmgmhocaaGreatDoorTie.lean); close each card by the builder's one call (the guide's Derived/Test/ToyasCard.lean, 'card_holds'). Laid BY PROGRAM, IN A SANDBOX (cutbox-door.mjs). By AI agents, Wed Nov 11 2026. No macro, syntax, notation, axiom, sorry.
-/
import Derived.Test.YtigocjhmgmhocaaGreatDoorRows
import GoSem.ClaimSeven
namespace Go.Proofs.YtigocjhmgmhocaaGreatDoor
namespace Rows

/-- THE TIED CARD OF 'sewershedlaw39.PermitTexts'. -/
def permitTextsCard : Claim7 := { stood := { row := permitTextsRow, standIns := [], harness := (true, "a96220e9ccd40be125d46d89bc6b11f1e3eee6c9de29722d64484086c1011be2"), looks := true }, kinds := [], alts := [], laidByText := true, laidKinds := [.data, .data, .data, .data, .sentinel, .sentinel, .pinned], laidTests := true, laidLooks := .later }
def PermitTextsCardSaid : Prop := Claim7.holds Tryz.pinned (.plain (OpenSpec.ofChange permitTextsSpec)) permitTextsCard

/-- THE TIED CARD OF 'sewershedlaw39.PermitBack'. -/
def permitBackCard : Claim7 := { stood := { row := permitBackRow, standIns := [], harness := (true, "a96220e9ccd40be125d46d89bc6b11f1e3eee6c9de29722d64484086c1011be2"), looks := true }, kinds := [], alts := [], laidByText := true, laidKinds := [.data, .data, .data, .data, .sentinel, .sentinel, .pinned], laidTests := true, laidLooks := .later }
def PermitBackCardSaid : Prop := Claim7.holds Tryz.pinned (.plain (OpenSpec.ofChange permitBackSpec)) permitBackCard

/-- THE SECOND FORM's CARD OF 'sewershedlaw39.PermitTexts'. -/
def permitTextsUptoCard : Claim7 := { stood := { row := permitTextsUptoRow, standIns := [], harness := (true, "a96220e9ccd40be125d46d89bc6b11f1e3eee6c9de29722d64484086c1011be2"), looks := true }, kinds := [], alts := [], laidByText := true, laidKinds := [.data, .data, .data, .data, .sentinel, .sentinel, .pinned], laidTests := true, laidLooks := .later }
def PermitTextsUptoCardSaid : Prop := Claim7.holds Tryz.pinned (.plain (OpenSpec.upto permitTextsSpec)) permitTextsUptoCard

/-- THE SECOND FORM's CARD OF 'sewershedlaw39.PermitBack'. -/
def permitBackUptoCard : Claim7 := { stood := { row := permitBackUptoRow, standIns := [], harness := (true, "a96220e9ccd40be125d46d89bc6b11f1e3eee6c9de29722d64484086c1011be2"), looks := true }, kinds := [], alts := [], laidByText := true, laidKinds := [.data, .data, .data, .data, .sentinel, .sentinel, .pinned], laidTests := true, laidLooks := .later }
def PermitBackUptoCardSaid : Prop := Claim7.holds Tryz.pinned (.plain (OpenSpec.upto permitBackSpec)) permitBackUptoCard
end Rows
end Go.Proofs.YtigocjhmgmhocaaGreatDoor

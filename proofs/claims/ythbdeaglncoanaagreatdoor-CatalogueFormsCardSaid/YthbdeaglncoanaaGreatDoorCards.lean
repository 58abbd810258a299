/-
  DERIVED. GIVEN WITH THE SEED: THE CARDS: each row of YthbdeaglncoanaaGreatDoorRows.lean that lists a variable, with what it lists TIED to the program's text (the seventh form; the later family's looks); each row that meets fmt, with fmt's text TOLD by the authors' own Lean function (tested against real Go, not proved from fmt's source: count such statements apart). THE CARD IS WHAT COUNTS. Prove the row's statement (the work); the ties are given (YthbdeaglncoanaaGreatDoorTie.lean); close each card by the builder's one call (the guide's Derived/Test/ToyasCard.lean, 'card_holds'). Laid BY PROGRAM, IN A SANDBOX (cutbox-door.mjs). By AI agents, Wed Nov 11 2026. No macro, syntax, notation, axiom, sorry.
-/
import Derived.Test.YthbdeaglncoanaaGreatDoorRows
import GoSem.ClaimSeven
namespace Go.Proofs.YthbdeaglncoanaaGreatDoor
namespace Rows

/-- THE TIED CARD OF 'sewershedlaw28.CatalogueForms'. -/
def catalogueFormsCard : Claim7 := { stood := { row := catalogueFormsRow, standIns := [], harness := (true, "32175897b3b4b67ec272056c1370460c44c3e7efdd31f6975acb40a80c0d4ff7"), looks := true }, kinds := [], alts := [], laidByText := true, laidKinds := [.data, .data, .data, .data, .sentinel, .sentinel, .pinned], laidTests := true, laidLooks := .later }
def CatalogueFormsCardSaid : Prop := Claim7.holds Tryz.pinned (.plain (OpenSpec.ofChange catalogueFormsSpec)) catalogueFormsCard

/-- THE SECOND FORM's CARD OF 'sewershedlaw28.CatalogueForms'. -/
def catalogueFormsUptoCard : Claim7 := { stood := { row := catalogueFormsUptoRow, standIns := [], harness := (true, "32175897b3b4b67ec272056c1370460c44c3e7efdd31f6975acb40a80c0d4ff7"), looks := true }, kinds := [], alts := [], laidByText := true, laidKinds := [.data, .data, .data, .data, .sentinel, .sentinel, .pinned], laidTests := true, laidLooks := .later }
def CatalogueFormsUptoCardSaid : Prop := Claim7.holds Tryz.pinned (.plain (OpenSpec.upto catalogueFormsSpec)) catalogueFormsUptoCard
end Rows
end Go.Proofs.YthbdeaglncoanaaGreatDoor

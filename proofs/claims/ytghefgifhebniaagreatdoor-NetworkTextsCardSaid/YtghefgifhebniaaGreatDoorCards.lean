/-
  DERIVED. GIVEN WITH THE SEED: THE CARDS: each row of YtghefgifhebniaaGreatDoorRows.lean that lists a variable, with what it lists TIED to the program's text (the seventh form; the later family's looks); each row that meets fmt, with fmt's text TOLD by the authors' own Lean function (tested against real Go, not proved from fmt's source: count such statements apart). THE CARD IS WHAT COUNTS. Prove the row's statement (the work); the ties are given (YtghefgifhebniaaGreatDoorTie.lean); close each card by the builder's one call (the guide's Derived/Test/ToyasCard.lean, 'card_holds'). Laid BY PROGRAM, IN A SANDBOX (cutbox-door.mjs). By AI agents, Wed Nov 11 2026. No macro, syntax, notation, axiom, sorry.
-/
import Derived.Test.YtghefgifhebniaaGreatDoorRows
import GoSem.ClaimSeven
namespace Go.Proofs.YtghefgifhebniaaGreatDoor
namespace Rows

/-- THE TIED CARD OF 'sewershedlaw26.NetworkEdges'. -/
def networkEdgesCard : Claim7 := { stood := { row := networkEdgesRow, standIns := [], harness := (true, "2cd2f2636b8951668a8f25bb04392b52cda08c6bd01052238632917bb5a7c3ff"), looks := true }, kinds := [], alts := [], laidByText := true, laidKinds := [.data, .data, .data, .data, .sentinel, .sentinel, .pinned], laidTests := true, laidLooks := .later }
def NetworkEdgesCardSaid : Prop := Claim7.holds Tryz.pinned (.plain (OpenSpec.ofChange networkEdgesSpec)) networkEdgesCard

/-- THE TIED CARD OF 'sewershedlaw26.NetworkWays'. -/
def networkWaysCard : Claim7 := { stood := { row := networkWaysRow, standIns := [], harness := (true, "2cd2f2636b8951668a8f25bb04392b52cda08c6bd01052238632917bb5a7c3ff"), looks := true }, kinds := [], alts := [], laidByText := true, laidKinds := [.data, .data, .data, .data, .sentinel, .sentinel, .pinned], laidTests := true, laidLooks := .later }
def NetworkWaysCardSaid : Prop := Claim7.holds Tryz.pinned (.plain (OpenSpec.ofChange networkWaysSpec)) networkWaysCard

/-- THE TIED CARD OF 'sewershedlaw26.NetworkDual'. -/
def networkDualCard : Claim7 := { stood := { row := networkDualRow, standIns := [], harness := (true, "2cd2f2636b8951668a8f25bb04392b52cda08c6bd01052238632917bb5a7c3ff"), looks := true }, kinds := [], alts := [], laidByText := true, laidKinds := [.data, .data, .data, .data, .sentinel, .sentinel, .pinned], laidTests := true, laidLooks := .later }
def NetworkDualCardSaid : Prop := Claim7.holds Tryz.pinned (.plain (OpenSpec.ofChange networkDualSpec)) networkDualCard

/-- THE TIED CARD OF 'sewershedlaw26.NetworkFinds'. -/
def networkFindsCard : Claim7 := { stood := { row := networkFindsRow, standIns := [], harness := (true, "2cd2f2636b8951668a8f25bb04392b52cda08c6bd01052238632917bb5a7c3ff"), looks := true }, kinds := [], alts := [], laidByText := true, laidKinds := [.data, .data, .data, .data, .sentinel, .sentinel, .pinned], laidTests := true, laidLooks := .later }
def NetworkFindsCardSaid : Prop := Claim7.holds Tryz.pinned (.plain (OpenSpec.ofChange networkFindsSpec)) networkFindsCard

/-- THE TIED CARD OF 'sewershedlaw26.NetworkNames'. -/
def networkNamesCard : Claim7 := { stood := { row := networkNamesRow, standIns := [], harness := (true, "2cd2f2636b8951668a8f25bb04392b52cda08c6bd01052238632917bb5a7c3ff"), looks := true }, kinds := [], alts := [], laidByText := true, laidKinds := [.data, .data, .data, .data, .sentinel, .sentinel, .pinned], laidTests := true, laidLooks := .later }
def NetworkNamesCardSaid : Prop := Claim7.holds Tryz.pinned (.plain (OpenSpec.ofChange networkNamesSpec)) networkNamesCard

/-- THE TIED CARD OF 'sewershedlaw26.NetworkValid'. -/
def networkValidCard : Claim7 := { stood := { row := networkValidRow, standIns := [], harness := (true, "2cd2f2636b8951668a8f25bb04392b52cda08c6bd01052238632917bb5a7c3ff"), looks := true }, kinds := [], alts := [], laidByText := true, laidKinds := [.data, .data, .data, .data, .sentinel, .sentinel, .pinned], laidTests := true, laidLooks := .later }
def NetworkValidCardSaid : Prop := Claim7.holds Tryz.pinned (.plain (OpenSpec.ofChange networkValidSpec)) networkValidCard

/-- THE TIED CARD OF 'sewershedlaw26.NetworkRemoves'. -/
def networkRemovesCard : Claim7 := { stood := { row := networkRemovesRow, standIns := [], harness := (true, "2cd2f2636b8951668a8f25bb04392b52cda08c6bd01052238632917bb5a7c3ff"), looks := true }, kinds := [], alts := [], laidByText := true, laidKinds := [.data, .data, .data, .data, .sentinel, .sentinel, .pinned], laidTests := true, laidLooks := .later }
def NetworkRemovesCardSaid : Prop := Claim7.holds Tryz.pinned (.plain (OpenSpec.ofChange networkRemovesSpec)) networkRemovesCard

/-- THE TIED CARD OF 'sewershedlaw26.NetworkWithout'. -/
def networkWithoutCard : Claim7 := { stood := { row := networkWithoutRow, standIns := [], harness := (true, "2cd2f2636b8951668a8f25bb04392b52cda08c6bd01052238632917bb5a7c3ff"), looks := true }, kinds := [], alts := [], laidByText := true, laidKinds := [.data, .data, .data, .data, .sentinel, .sentinel, .pinned], laidTests := true, laidLooks := .later }
def NetworkWithoutCardSaid : Prop := Claim7.holds Tryz.pinned (.plain (OpenSpec.ofChange networkWithoutSpec)) networkWithoutCard

/-- THE TIED CARD OF 'sewershedlaw26.NetworkTexts'. -/
def networkTextsCard : Claim7 := { stood := { row := networkTextsRow, standIns := [], harness := (true, "2cd2f2636b8951668a8f25bb04392b52cda08c6bd01052238632917bb5a7c3ff"), looks := true }, kinds := [], alts := [], laidByText := true, laidKinds := [.data, .data, .data, .data, .sentinel, .sentinel, .pinned], laidTests := true, laidLooks := .later }
def NetworkTextsCardSaid : Prop := Claim7.holds Tryz.pinned (.plain (OpenSpec.ofChange networkTextsSpec)) networkTextsCard

/-- THE TIED CARD OF 'sewershedlaw26.NetworkLines'. -/
def networkLinesCard : Claim7 := { stood := { row := networkLinesRow, standIns := [], harness := (true, "2cd2f2636b8951668a8f25bb04392b52cda08c6bd01052238632917bb5a7c3ff"), looks := true }, kinds := [], alts := [], laidByText := true, laidKinds := [.data, .data, .data, .data, .sentinel, .sentinel, .pinned], laidTests := true, laidLooks := .later }
def NetworkLinesCardSaid : Prop := Claim7.holds Tryz.pinned (.plain (OpenSpec.ofChange networkLinesSpec)) networkLinesCard

/-- THE TIED CARD OF 'sewershedlaw26.NetworkOrders'. -/
def networkOrdersCard : Claim7 := { stood := { row := networkOrdersRow, standIns := [], harness := (true, "2cd2f2636b8951668a8f25bb04392b52cda08c6bd01052238632917bb5a7c3ff"), looks := true }, kinds := [], alts := [], laidByText := true, laidKinds := [.data, .data, .data, .data, .sentinel, .sentinel, .pinned], laidTests := true, laidLooks := .later }
def NetworkOrdersCardSaid : Prop := Claim7.holds Tryz.pinned (.plain (OpenSpec.ofChange networkOrdersSpec)) networkOrdersCard

/-- THE SECOND FORM's CARD OF 'sewershedlaw26.NetworkEdges'. -/
def networkEdgesUptoCard : Claim7 := { stood := { row := networkEdgesUptoRow, standIns := [], harness := (true, "2cd2f2636b8951668a8f25bb04392b52cda08c6bd01052238632917bb5a7c3ff"), looks := true }, kinds := [], alts := [], laidByText := true, laidKinds := [.data, .data, .data, .data, .sentinel, .sentinel, .pinned], laidTests := true, laidLooks := .later }
def NetworkEdgesUptoCardSaid : Prop := Claim7.holds Tryz.pinned (.plain (OpenSpec.upto networkEdgesSpec)) networkEdgesUptoCard

/-- THE SECOND FORM's CARD OF 'sewershedlaw26.NetworkWays'. -/
def networkWaysUptoCard : Claim7 := { stood := { row := networkWaysUptoRow, standIns := [], harness := (true, "2cd2f2636b8951668a8f25bb04392b52cda08c6bd01052238632917bb5a7c3ff"), looks := true }, kinds := [], alts := [], laidByText := true, laidKinds := [.data, .data, .data, .data, .sentinel, .sentinel, .pinned], laidTests := true, laidLooks := .later }
def NetworkWaysUptoCardSaid : Prop := Claim7.holds Tryz.pinned (.plain (OpenSpec.upto networkWaysSpec)) networkWaysUptoCard

/-- THE SECOND FORM's CARD OF 'sewershedlaw26.NetworkDual'. -/
def networkDualUptoCard : Claim7 := { stood := { row := networkDualUptoRow, standIns := [], harness := (true, "2cd2f2636b8951668a8f25bb04392b52cda08c6bd01052238632917bb5a7c3ff"), looks := true }, kinds := [], alts := [], laidByText := true, laidKinds := [.data, .data, .data, .data, .sentinel, .sentinel, .pinned], laidTests := true, laidLooks := .later }
def NetworkDualUptoCardSaid : Prop := Claim7.holds Tryz.pinned (.plain (OpenSpec.upto networkDualSpec)) networkDualUptoCard

/-- THE SECOND FORM's CARD OF 'sewershedlaw26.NetworkFinds'. -/
def networkFindsUptoCard : Claim7 := { stood := { row := networkFindsUptoRow, standIns := [], harness := (true, "2cd2f2636b8951668a8f25bb04392b52cda08c6bd01052238632917bb5a7c3ff"), looks := true }, kinds := [], alts := [], laidByText := true, laidKinds := [.data, .data, .data, .data, .sentinel, .sentinel, .pinned], laidTests := true, laidLooks := .later }
def NetworkFindsUptoCardSaid : Prop := Claim7.holds Tryz.pinned (.plain (OpenSpec.upto networkFindsSpec)) networkFindsUptoCard

/-- THE SECOND FORM's CARD OF 'sewershedlaw26.NetworkNames'. -/
def networkNamesUptoCard : Claim7 := { stood := { row := networkNamesUptoRow, standIns := [], harness := (true, "2cd2f2636b8951668a8f25bb04392b52cda08c6bd01052238632917bb5a7c3ff"), looks := true }, kinds := [], alts := [], laidByText := true, laidKinds := [.data, .data, .data, .data, .sentinel, .sentinel, .pinned], laidTests := true, laidLooks := .later }
def NetworkNamesUptoCardSaid : Prop := Claim7.holds Tryz.pinned (.plain (OpenSpec.upto networkNamesSpec)) networkNamesUptoCard

/-- THE SECOND FORM's CARD OF 'sewershedlaw26.NetworkValid'. -/
def networkValidUptoCard : Claim7 := { stood := { row := networkValidUptoRow, standIns := [], harness := (true, "2cd2f2636b8951668a8f25bb04392b52cda08c6bd01052238632917bb5a7c3ff"), looks := true }, kinds := [], alts := [], laidByText := true, laidKinds := [.data, .data, .data, .data, .sentinel, .sentinel, .pinned], laidTests := true, laidLooks := .later }
def NetworkValidUptoCardSaid : Prop := Claim7.holds Tryz.pinned (.plain (OpenSpec.upto networkValidSpec)) networkValidUptoCard

/-- THE SECOND FORM's CARD OF 'sewershedlaw26.NetworkRemoves'. -/
def networkRemovesUptoCard : Claim7 := { stood := { row := networkRemovesUptoRow, standIns := [], harness := (true, "2cd2f2636b8951668a8f25bb04392b52cda08c6bd01052238632917bb5a7c3ff"), looks := true }, kinds := [], alts := [], laidByText := true, laidKinds := [.data, .data, .data, .data, .sentinel, .sentinel, .pinned], laidTests := true, laidLooks := .later }
def NetworkRemovesUptoCardSaid : Prop := Claim7.holds Tryz.pinned (.plain (OpenSpec.upto networkRemovesSpec)) networkRemovesUptoCard

/-- THE SECOND FORM's CARD OF 'sewershedlaw26.NetworkWithout'. -/
def networkWithoutUptoCard : Claim7 := { stood := { row := networkWithoutUptoRow, standIns := [], harness := (true, "2cd2f2636b8951668a8f25bb04392b52cda08c6bd01052238632917bb5a7c3ff"), looks := true }, kinds := [], alts := [], laidByText := true, laidKinds := [.data, .data, .data, .data, .sentinel, .sentinel, .pinned], laidTests := true, laidLooks := .later }
def NetworkWithoutUptoCardSaid : Prop := Claim7.holds Tryz.pinned (.plain (OpenSpec.upto networkWithoutSpec)) networkWithoutUptoCard

/-- THE SECOND FORM's CARD OF 'sewershedlaw26.NetworkTexts'. -/
def networkTextsUptoCard : Claim7 := { stood := { row := networkTextsUptoRow, standIns := [], harness := (true, "2cd2f2636b8951668a8f25bb04392b52cda08c6bd01052238632917bb5a7c3ff"), looks := true }, kinds := [], alts := [], laidByText := true, laidKinds := [.data, .data, .data, .data, .sentinel, .sentinel, .pinned], laidTests := true, laidLooks := .later }
def NetworkTextsUptoCardSaid : Prop := Claim7.holds Tryz.pinned (.plain (OpenSpec.upto networkTextsSpec)) networkTextsUptoCard

/-- THE SECOND FORM's CARD OF 'sewershedlaw26.NetworkLines'. -/
def networkLinesUptoCard : Claim7 := { stood := { row := networkLinesUptoRow, standIns := [], harness := (true, "2cd2f2636b8951668a8f25bb04392b52cda08c6bd01052238632917bb5a7c3ff"), looks := true }, kinds := [], alts := [], laidByText := true, laidKinds := [.data, .data, .data, .data, .sentinel, .sentinel, .pinned], laidTests := true, laidLooks := .later }
def NetworkLinesUptoCardSaid : Prop := Claim7.holds Tryz.pinned (.plain (OpenSpec.upto networkLinesSpec)) networkLinesUptoCard

/-- THE SECOND FORM's CARD OF 'sewershedlaw26.NetworkOrders'. -/
def networkOrdersUptoCard : Claim7 := { stood := { row := networkOrdersUptoRow, standIns := [], harness := (true, "2cd2f2636b8951668a8f25bb04392b52cda08c6bd01052238632917bb5a7c3ff"), looks := true }, kinds := [], alts := [], laidByText := true, laidKinds := [.data, .data, .data, .data, .sentinel, .sentinel, .pinned], laidTests := true, laidLooks := .later }
def NetworkOrdersUptoCardSaid : Prop := Claim7.holds Tryz.pinned (.plain (OpenSpec.upto networkOrdersSpec)) networkOrdersUptoCard
end Rows
end Go.Proofs.YtghefgifhebniaaGreatDoor

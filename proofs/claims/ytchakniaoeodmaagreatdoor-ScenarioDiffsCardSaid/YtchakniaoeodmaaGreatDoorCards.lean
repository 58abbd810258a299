/-
  DERIVED. GIVEN WITH THE SEED: THE CARDS: each row of YtchakniaoeodmaaGreatDoorRows.lean that lists a variable, with what it lists TIED to the program's text (the seventh form; the later family's looks); each row that meets fmt, with fmt's text TOLD by the authors' own Lean function (tested against real Go, not proved from fmt's source: count such statements apart). THE CARD IS WHAT COUNTS. Prove the row's statement (the work); the ties are given (YtchakniaoeodmaaGreatDoorTie.lean); close each card by the builder's one call (the guide's Derived/Test/ToyasCard.lean, 'card_holds'). Laid BY PROGRAM, IN A SANDBOX (cutbox-door.mjs). By AI agents, Wed Nov 11 2026. No macro, syntax, notation, axiom, sorry.
-/
import Derived.Test.YtchakniaoeodmaaGreatDoorRows
import GoSem.ClaimSeven
namespace Go.Proofs.YtchakniaoeodmaaGreatDoor
namespace Rows

/-- THE TIED CARD OF 'sewershedlaw40.ScenarioTexts'. -/
def scenarioTextsCard : Claim7 := { stood := { row := scenarioTextsRow, standIns := [], harness := (true, "17da870fcf8695f3a814935e344b92c1969780ceeeac09ab5087f00406ddd641"), looks := true }, kinds := [], alts := [], laidByText := true, laidKinds := [.data, .data, .data, .data, .sentinel, .sentinel, .pinned], laidTests := true, laidLooks := .later }
def ScenarioTextsCardSaid : Prop := Claim7.holds Tryz.pinned (.plain (OpenSpec.ofChange scenarioTextsSpec)) scenarioTextsCard

/-- THE TIED CARD OF 'sewershedlaw40.ScenarioLists'. -/
def scenarioListsCard : Claim7 := { stood := { row := scenarioListsRow, standIns := [], harness := (true, "17da870fcf8695f3a814935e344b92c1969780ceeeac09ab5087f00406ddd641"), looks := true }, kinds := [], alts := [], laidByText := true, laidKinds := [.data, .data, .data, .data, .sentinel, .sentinel, .pinned], laidTests := true, laidLooks := .later }
def ScenarioListsCardSaid : Prop := Claim7.holds Tryz.pinned (.plain (OpenSpec.ofChange scenarioListsSpec)) scenarioListsCard

/-- THE TIED CARD OF 'sewershedlaw40.ScenarioReaches'. -/
def scenarioReachesCard : Claim7 := { stood := { row := scenarioReachesRow, standIns := [], harness := (true, "17da870fcf8695f3a814935e344b92c1969780ceeeac09ab5087f00406ddd641"), looks := true }, kinds := [], alts := [], laidByText := true, laidKinds := [.data, .data, .data, .data, .sentinel, .sentinel, .pinned], laidTests := true, laidLooks := .later }
def ScenarioReachesCardSaid : Prop := Claim7.holds Tryz.pinned (.plain (OpenSpec.ofChange scenarioReachesSpec)) scenarioReachesCard

/-- THE TIED CARD OF 'sewershedlaw40.ScenarioApplies'. -/
def scenarioAppliesCard : Claim7 := { stood := { row := scenarioAppliesRow, standIns := [], harness := (true, "17da870fcf8695f3a814935e344b92c1969780ceeeac09ab5087f00406ddd641"), looks := true }, kinds := [], alts := [], laidByText := true, laidKinds := [.data, .data, .data, .data, .sentinel, .sentinel, .pinned], laidTests := true, laidLooks := .later }
def ScenarioAppliesCardSaid : Prop := Claim7.holds Tryz.pinned (.plain (OpenSpec.ofChange scenarioAppliesSpec)) scenarioAppliesCard

/-- THE TIED CARD OF 'sewershedlaw40.ScenarioUndone'. -/
def scenarioUndoneCard : Claim7 := { stood := { row := scenarioUndoneRow, standIns := [], harness := (true, "17da870fcf8695f3a814935e344b92c1969780ceeeac09ab5087f00406ddd641"), looks := true }, kinds := [], alts := [], laidByText := true, laidKinds := [.data, .data, .data, .data, .sentinel, .sentinel, .pinned], laidTests := true, laidLooks := .later }
def ScenarioUndoneCardSaid : Prop := Claim7.holds Tryz.pinned (.plain (OpenSpec.ofChange scenarioUndoneSpec)) scenarioUndoneCard

/-- THE TIED CARD OF 'sewershedlaw40.ScenarioCommutes'. -/
def scenarioCommutesCard : Claim7 := { stood := { row := scenarioCommutesRow, standIns := [], harness := (true, "17da870fcf8695f3a814935e344b92c1969780ceeeac09ab5087f00406ddd641"), looks := true }, kinds := [], alts := [], laidByText := true, laidKinds := [.data, .data, .data, .data, .sentinel, .sentinel, .pinned], laidTests := true, laidLooks := .later }
def ScenarioCommutesCardSaid : Prop := Claim7.holds Tryz.pinned (.plain (OpenSpec.ofChange scenarioCommutesSpec)) scenarioCommutesCard

/-- THE TIED CARD OF 'sewershedlaw40.ScenarioDiffs'. -/
def scenarioDiffsCard : Claim7 := { stood := { row := scenarioDiffsRow, standIns := [], harness := (true, "17da870fcf8695f3a814935e344b92c1969780ceeeac09ab5087f00406ddd641"), looks := true }, kinds := [], alts := [], laidByText := true, laidKinds := [.data, .data, .data, .data, .sentinel, .sentinel, .pinned], laidTests := true, laidLooks := .later }
def ScenarioDiffsCardSaid : Prop := Claim7.holds Tryz.pinned (.plain (OpenSpec.ofChange scenarioDiffsSpec)) scenarioDiffsCard

/-- THE SECOND FORM's CARD OF 'sewershedlaw40.ScenarioTexts'. -/
def scenarioTextsUptoCard : Claim7 := { stood := { row := scenarioTextsUptoRow, standIns := [], harness := (true, "17da870fcf8695f3a814935e344b92c1969780ceeeac09ab5087f00406ddd641"), looks := true }, kinds := [], alts := [], laidByText := true, laidKinds := [.data, .data, .data, .data, .sentinel, .sentinel, .pinned], laidTests := true, laidLooks := .later }
def ScenarioTextsUptoCardSaid : Prop := Claim7.holds Tryz.pinned (.plain (OpenSpec.upto scenarioTextsSpec)) scenarioTextsUptoCard

/-- THE SECOND FORM's CARD OF 'sewershedlaw40.ScenarioLists'. -/
def scenarioListsUptoCard : Claim7 := { stood := { row := scenarioListsUptoRow, standIns := [], harness := (true, "17da870fcf8695f3a814935e344b92c1969780ceeeac09ab5087f00406ddd641"), looks := true }, kinds := [], alts := [], laidByText := true, laidKinds := [.data, .data, .data, .data, .sentinel, .sentinel, .pinned], laidTests := true, laidLooks := .later }
def ScenarioListsUptoCardSaid : Prop := Claim7.holds Tryz.pinned (.plain (OpenSpec.upto scenarioListsSpec)) scenarioListsUptoCard

/-- THE SECOND FORM's CARD OF 'sewershedlaw40.ScenarioReaches'. -/
def scenarioReachesUptoCard : Claim7 := { stood := { row := scenarioReachesUptoRow, standIns := [], harness := (true, "17da870fcf8695f3a814935e344b92c1969780ceeeac09ab5087f00406ddd641"), looks := true }, kinds := [], alts := [], laidByText := true, laidKinds := [.data, .data, .data, .data, .sentinel, .sentinel, .pinned], laidTests := true, laidLooks := .later }
def ScenarioReachesUptoCardSaid : Prop := Claim7.holds Tryz.pinned (.plain (OpenSpec.upto scenarioReachesSpec)) scenarioReachesUptoCard

/-- THE SECOND FORM's CARD OF 'sewershedlaw40.ScenarioApplies'. -/
def scenarioAppliesUptoCard : Claim7 := { stood := { row := scenarioAppliesUptoRow, standIns := [], harness := (true, "17da870fcf8695f3a814935e344b92c1969780ceeeac09ab5087f00406ddd641"), looks := true }, kinds := [], alts := [], laidByText := true, laidKinds := [.data, .data, .data, .data, .sentinel, .sentinel, .pinned], laidTests := true, laidLooks := .later }
def ScenarioAppliesUptoCardSaid : Prop := Claim7.holds Tryz.pinned (.plain (OpenSpec.upto scenarioAppliesSpec)) scenarioAppliesUptoCard

/-- THE SECOND FORM's CARD OF 'sewershedlaw40.ScenarioUndone'. -/
def scenarioUndoneUptoCard : Claim7 := { stood := { row := scenarioUndoneUptoRow, standIns := [], harness := (true, "17da870fcf8695f3a814935e344b92c1969780ceeeac09ab5087f00406ddd641"), looks := true }, kinds := [], alts := [], laidByText := true, laidKinds := [.data, .data, .data, .data, .sentinel, .sentinel, .pinned], laidTests := true, laidLooks := .later }
def ScenarioUndoneUptoCardSaid : Prop := Claim7.holds Tryz.pinned (.plain (OpenSpec.upto scenarioUndoneSpec)) scenarioUndoneUptoCard

/-- THE SECOND FORM's CARD OF 'sewershedlaw40.ScenarioCommutes'. -/
def scenarioCommutesUptoCard : Claim7 := { stood := { row := scenarioCommutesUptoRow, standIns := [], harness := (true, "17da870fcf8695f3a814935e344b92c1969780ceeeac09ab5087f00406ddd641"), looks := true }, kinds := [], alts := [], laidByText := true, laidKinds := [.data, .data, .data, .data, .sentinel, .sentinel, .pinned], laidTests := true, laidLooks := .later }
def ScenarioCommutesUptoCardSaid : Prop := Claim7.holds Tryz.pinned (.plain (OpenSpec.upto scenarioCommutesSpec)) scenarioCommutesUptoCard

/-- THE SECOND FORM's CARD OF 'sewershedlaw40.ScenarioDiffs'. -/
def scenarioDiffsUptoCard : Claim7 := { stood := { row := scenarioDiffsUptoRow, standIns := [], harness := (true, "17da870fcf8695f3a814935e344b92c1969780ceeeac09ab5087f00406ddd641"), looks := true }, kinds := [], alts := [], laidByText := true, laidKinds := [.data, .data, .data, .data, .sentinel, .sentinel, .pinned], laidTests := true, laidLooks := .later }
def ScenarioDiffsUptoCardSaid : Prop := Claim7.holds Tryz.pinned (.plain (OpenSpec.upto scenarioDiffsSpec)) scenarioDiffsUptoCard
end Rows
end Go.Proofs.YtchakniaoeodmaaGreatDoor

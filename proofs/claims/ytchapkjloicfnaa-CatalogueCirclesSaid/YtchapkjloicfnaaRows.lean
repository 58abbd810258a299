/-
  No cell of these rows narrows 'for every input' (looked for: loops, veiled, ifaces, maps, wideKeys, modest, calm, conditions, laid).
  DERIVED. THE GIVEN ROWS OF THIS SEAT. 7 by the template 'for every input the law returns true; each argument reads behind the call as it read before'; 0 by the template 'total and deterministic' (their statements: YtchapkjloicfnaaTotals.lean).
  GIVEN WITH THE SEED: the statements are not yours to turn. If you find one false, say at which input.
  Laid BY PROGRAM, IN A SANDBOX (cutbox-rows.mjs): the forced cells as the released guide's own fill.sh prints them over the translation 9b3a9ecb6a35496f… (all of the seat's roots in one cut). By AI agents, Wed Nov 11 2026. No macro, syntax, notation, axiom, sorry.
-/
import Derived.Test.YtchapkjloicfnaaChecked
import GoSem.Claim
import GoSem.ClaimJoined
import GoSem.ClaimMapViews
import Derived.JoinedTies
import Derived.KernelRfl
namespace Go.Proofs.Ytchapkjloicfnaa
/- THE CELL 'sum', in the pinned program and in every row, IS THE sha256 OF THE DUMP (.gsa) THAT YtchapkjloicfnaaProg.lean LOADS. Nothing in Lean hashes anything: it is a label: what it is worth is what the hold of that sum in a sandbox is worth. -/
noncomputable def Try.pinned : Pinned := { name := "ytchapkjloicfnaa", sum := "9b3a9ecb6a35496fe0ab3e44271ef4477890599c16bf25cdd880e3868d9809a4", checked := Try.checked }
namespace Rows
def none {H : Type} : Left H := { results := [], args := [] }

/-- 'sewershedlaw28.CatalogueGrow': WHATEVER THE INPUT: true; the input reads as it did. -/
def catalogueGrowSpec : ChangeSpec := { name := "catalogueGrow", fn := fun _ => fun
  | [d1, d2, d3, d4, d5] => { results := [.lit (.bool true)], args := [d1, d2, d3, d4, d5] }
  | _ => none }
def catalogueGrowRow : OpenClaim := { program := "ytchapkjloicfnaa", sum := "9b3a9ecb6a35496fe0ab3e44271ef4477890599c16bf25cdd880e3868d9809a4", func := "sewershed/sewershedlaw28.CatalogueGrow", spec := "catalogueGrow", inPlace := ["math/bits.Sub64", "math/bits.Add64"], unfollowed := true, recurses := true, named := ["math/bits.divideError", "math/bits.overflowError"], apart := false }
def CatalogueGrowSaid : Prop := catalogueGrowRow.holds Try.pinned (OpenSpec.ofChange catalogueGrowSpec)

/-- ITS FALSE NEIGHBOUR: 'it returns false'. Refute it at one input. -/
def catalogueGrowWrong : ChangeSpec := { name := "catalogueGrow", fn := fun _ => fun
  | [d1, d2, d3, d4, d5] => { results := [.lit (.bool false)], args := [d1, d2, d3, d4, d5] }
  | _ => none }
def CatalogueGrowWrongFalsely : Prop := catalogueGrowRow.holds Try.pinned (OpenSpec.ofChange catalogueGrowWrong)

/-- 'sewershedlaw28.CatalogueRound': WHATEVER THE INPUT: true; the input reads as it did. -/
def catalogueRoundSpec : ChangeSpec := { name := "catalogueRound", fn := fun _ => fun
  | [d1, d2, d3, d4, d5] => { results := [.lit (.bool true)], args := [d1, d2, d3, d4, d5] }
  | _ => none }
def catalogueRoundRow : OpenClaim := { program := "ytchapkjloicfnaa", sum := "9b3a9ecb6a35496fe0ab3e44271ef4477890599c16bf25cdd880e3868d9809a4", func := "sewershed/sewershedlaw28.CatalogueRound", spec := "catalogueRound", inPlace := ["math/bits.Sub64", "math/bits.Add64"], unfollowed := true, recurses := true, named := ["math/bits.divideError", "math/bits.overflowError"], apart := false }
def CatalogueRoundSaid : Prop := catalogueRoundRow.holds Try.pinned (OpenSpec.ofChange catalogueRoundSpec)

/-- ITS FALSE NEIGHBOUR: 'it returns false'. Refute it at one input. -/
def catalogueRoundWrong : ChangeSpec := { name := "catalogueRound", fn := fun _ => fun
  | [d1, d2, d3, d4, d5] => { results := [.lit (.bool false)], args := [d1, d2, d3, d4, d5] }
  | _ => none }
def CatalogueRoundWrongFalsely : Prop := catalogueRoundRow.holds Try.pinned (OpenSpec.ofChange catalogueRoundWrong)

/-- 'sewershedlaw28.CatalogueCircles': WHATEVER THE INPUT: true; the input reads as it did. -/
def catalogueCirclesSpec : ChangeSpec := { name := "catalogueCircles", fn := fun _ => fun
  | [d1, d2, d3, d4] => { results := [.lit (.bool true)], args := [d1, d2, d3, d4] }
  | _ => none }
def catalogueCirclesRow : OpenClaim := { program := "ytchapkjloicfnaa", sum := "9b3a9ecb6a35496fe0ab3e44271ef4477890599c16bf25cdd880e3868d9809a4", func := "sewershed/sewershedlaw28.CatalogueCircles", spec := "catalogueCircles", inPlace := ["math/bits.Sub64", "math/bits.Add64"], unfollowed := true, recurses := true, named := ["math/bits.divideError", "math/bits.overflowError"], apart := false }
def CatalogueCirclesSaid : Prop := catalogueCirclesRow.holds Try.pinned (OpenSpec.ofChange catalogueCirclesSpec)

/-- ITS FALSE NEIGHBOUR: 'it returns false'. Refute it at one input. -/
def catalogueCirclesWrong : ChangeSpec := { name := "catalogueCircles", fn := fun _ => fun
  | [d1, d2, d3, d4] => { results := [.lit (.bool false)], args := [d1, d2, d3, d4] }
  | _ => none }
def CatalogueCirclesWrongFalsely : Prop := catalogueCirclesRow.holds Try.pinned (OpenSpec.ofChange catalogueCirclesWrong)

/-- 'sewershedlaw28.CatalogueFlows': WHATEVER THE INPUT: true; the input reads as it did. -/
def catalogueFlowsSpec : ChangeSpec := { name := "catalogueFlows", fn := fun _ => fun
  | [d1, d2, d3, d4, d5] => { results := [.lit (.bool true)], args := [d1, d2, d3, d4, d5] }
  | _ => none }
def catalogueFlowsRow : OpenClaim := { program := "ytchapkjloicfnaa", sum := "9b3a9ecb6a35496fe0ab3e44271ef4477890599c16bf25cdd880e3868d9809a4", func := "sewershed/sewershedlaw28.CatalogueFlows", spec := "catalogueFlows", inPlace := ["math/bits.Sub64", "math/bits.Add64"], unfollowed := true, recurses := true, named := ["math/bits.divideError", "math/bits.overflowError"], apart := false }
def CatalogueFlowsSaid : Prop := catalogueFlowsRow.holds Try.pinned (OpenSpec.ofChange catalogueFlowsSpec)

/-- ITS FALSE NEIGHBOUR: 'it returns false'. Refute it at one input. -/
def catalogueFlowsWrong : ChangeSpec := { name := "catalogueFlows", fn := fun _ => fun
  | [d1, d2, d3, d4, d5] => { results := [.lit (.bool false)], args := [d1, d2, d3, d4, d5] }
  | _ => none }
def CatalogueFlowsWrongFalsely : Prop := catalogueFlowsRow.holds Try.pinned (OpenSpec.ofChange catalogueFlowsWrong)

/-- 'sewershedlaw28.CatalogueEnough': WHATEVER THE INPUT: true; the input reads as it did. -/
def catalogueEnoughSpec : ChangeSpec := { name := "catalogueEnough", fn := fun _ => fun
  | [d1, d2, d3, d4] => { results := [.lit (.bool true)], args := [d1, d2, d3, d4] }
  | _ => none }
def catalogueEnoughRow : OpenClaim := { program := "ytchapkjloicfnaa", sum := "9b3a9ecb6a35496fe0ab3e44271ef4477890599c16bf25cdd880e3868d9809a4", func := "sewershed/sewershedlaw28.CatalogueEnough", spec := "catalogueEnough", inPlace := ["math/bits.Sub64", "math/bits.Add64"], unfollowed := true, recurses := true, named := ["math/bits.divideError", "math/bits.overflowError"], apart := false }
def CatalogueEnoughSaid : Prop := catalogueEnoughRow.holds Try.pinned (OpenSpec.ofChange catalogueEnoughSpec)

/-- ITS FALSE NEIGHBOUR: 'it returns false'. Refute it at one input. -/
def catalogueEnoughWrong : ChangeSpec := { name := "catalogueEnough", fn := fun _ => fun
  | [d1, d2, d3, d4] => { results := [.lit (.bool false)], args := [d1, d2, d3, d4] }
  | _ => none }
def CatalogueEnoughWrongFalsely : Prop := catalogueEnoughRow.holds Try.pinned (OpenSpec.ofChange catalogueEnoughWrong)

/-- 'sewershedlaw28.CatalogueSpeeds': WHATEVER THE INPUT: true; the input reads as it did. -/
def catalogueSpeedsSpec : ChangeSpec := { name := "catalogueSpeeds", fn := fun _ => fun
  | [d1, d2, d3, d4] => { results := [.lit (.bool true)], args := [d1, d2, d3, d4] }
  | _ => none }
def catalogueSpeedsRow : OpenClaim := { program := "ytchapkjloicfnaa", sum := "9b3a9ecb6a35496fe0ab3e44271ef4477890599c16bf25cdd880e3868d9809a4", func := "sewershed/sewershedlaw28.CatalogueSpeeds", spec := "catalogueSpeeds", inPlace := ["math/bits.Sub64", "math/bits.Add64"], unfollowed := true, recurses := true, named := ["math/bits.divideError", "math/bits.overflowError"], apart := false }
def CatalogueSpeedsSaid : Prop := catalogueSpeedsRow.holds Try.pinned (OpenSpec.ofChange catalogueSpeedsSpec)

/-- ITS FALSE NEIGHBOUR: 'it returns false'. Refute it at one input. -/
def catalogueSpeedsWrong : ChangeSpec := { name := "catalogueSpeeds", fn := fun _ => fun
  | [d1, d2, d3, d4] => { results := [.lit (.bool false)], args := [d1, d2, d3, d4] }
  | _ => none }
def CatalogueSpeedsWrongFalsely : Prop := catalogueSpeedsRow.holds Try.pinned (OpenSpec.ofChange catalogueSpeedsWrong)

/-- 'sewershedlaw28.CatalogueMoves': WHATEVER THE INPUT: true; the input reads as it did. -/
def catalogueMovesSpec : ChangeSpec := { name := "catalogueMoves", fn := fun _ => fun
  | [d1, d2, d3, d4] => { results := [.lit (.bool true)], args := [d1, d2, d3, d4] }
  | _ => none }
def catalogueMovesRow : OpenClaim := { program := "ytchapkjloicfnaa", sum := "9b3a9ecb6a35496fe0ab3e44271ef4477890599c16bf25cdd880e3868d9809a4", func := "sewershed/sewershedlaw28.CatalogueMoves", spec := "catalogueMoves", inPlace := ["math/bits.Sub64", "math/bits.Add64"], unfollowed := true, recurses := true, named := ["math/bits.divideError", "math/bits.overflowError"], apart := false }
def CatalogueMovesSaid : Prop := catalogueMovesRow.holds Try.pinned (OpenSpec.ofChange catalogueMovesSpec)

/-- ITS FALSE NEIGHBOUR: 'it returns false'. Refute it at one input. -/
def catalogueMovesWrong : ChangeSpec := { name := "catalogueMoves", fn := fun _ => fun
  | [d1, d2, d3, d4] => { results := [.lit (.bool false)], args := [d1, d2, d3, d4] }
  | _ => none }
def CatalogueMovesWrongFalsely : Prop := catalogueMovesRow.holds Try.pinned (OpenSpec.ofChange catalogueMovesWrong)

/- THE SECOND FORM. 'bulk': how many values and letters a reading holds, each counted each time it is reached (what is shared counts as often as it is met; a slice's spare places count too). A statement '..UptoSaid' is the law's where the arguments, and the package variables that the reading takes, are together of bulk at most 1048576: NARROWER than '..Said'. Prove '..Said' where nothing that the law and all that it calls make is longer than what came in: it says more and counts as full. Else prove '..UptoSaid'. A law counts once. -/
mutual
def uptoBulk {H : Type} : DataW H → Nat
  | .lit (.string bytes) => bytes.length + 1
  | .lit _ => 1
  | .nil => 1
  | .ptr d => uptoBulk d + 1
  | .slice elems spare => uptoBulkAll elems + uptoBulkAll spare + 1
  | .agg parts => uptoBulkAll parts + 1
  | .iface _ d => uptoBulk d + 1
  | .map entries => uptoBulkEntries entries + 1
  | .held _ => 1
def uptoBulkAll {H : Type} : List (DataW H) → Nat
  | [] => 0
  | d :: r => uptoBulk d + uptoBulkAll r
def uptoBulkEntries {H : Type} : List (Lit × DataW H) → Nat
  | [] => 0
  | x :: r => uptoBulkEntry x + uptoBulkEntries r
def uptoBulkEntry {H : Type} : Lit × DataW H → Nat
  | (.string bytes, d) => bytes.length + uptoBulk d + 1
  | (_, d) => uptoBulk d + 1
 end
def uptoSmall : (H : Type) → List (DataW H) → Bool := fun _ ds => decide (uptoBulkAll ds ≤ 1048576)
def OpenSpec.upto (s : _root_.Go.ChangeSpec) : _root_.Go.OpenSpec := { _root_.Go.OpenSpec.ofChange s with cond := some uptoSmall }

/-- 'sewershedlaw28.CatalogueGrow', WHERE WHAT IT READS IS OF BULK AT MOST 1048576: true; the input reads as it did. -/
def catalogueGrowUptoRow : OpenClaim := { program := "ytchapkjloicfnaa", sum := "9b3a9ecb6a35496fe0ab3e44271ef4477890599c16bf25cdd880e3868d9809a4", func := "sewershed/sewershedlaw28.CatalogueGrow", spec := "catalogueGrow", inPlace := ["math/bits.Sub64", "math/bits.Add64"], unfollowed := true, recurses := true, named := ["math/bits.divideError", "math/bits.overflowError"], apart := false, narrowed := true }
def CatalogueGrowUptoSaid : Prop := catalogueGrowUptoRow.holds Try.pinned (OpenSpec.upto catalogueGrowSpec)

/-- 'sewershedlaw28.CatalogueRound', WHERE WHAT IT READS IS OF BULK AT MOST 1048576: true; the input reads as it did. -/
def catalogueRoundUptoRow : OpenClaim := { program := "ytchapkjloicfnaa", sum := "9b3a9ecb6a35496fe0ab3e44271ef4477890599c16bf25cdd880e3868d9809a4", func := "sewershed/sewershedlaw28.CatalogueRound", spec := "catalogueRound", inPlace := ["math/bits.Sub64", "math/bits.Add64"], unfollowed := true, recurses := true, named := ["math/bits.divideError", "math/bits.overflowError"], apart := false, narrowed := true }
def CatalogueRoundUptoSaid : Prop := catalogueRoundUptoRow.holds Try.pinned (OpenSpec.upto catalogueRoundSpec)

/-- 'sewershedlaw28.CatalogueCircles', WHERE WHAT IT READS IS OF BULK AT MOST 1048576: true; the input reads as it did. -/
def catalogueCirclesUptoRow : OpenClaim := { program := "ytchapkjloicfnaa", sum := "9b3a9ecb6a35496fe0ab3e44271ef4477890599c16bf25cdd880e3868d9809a4", func := "sewershed/sewershedlaw28.CatalogueCircles", spec := "catalogueCircles", inPlace := ["math/bits.Sub64", "math/bits.Add64"], unfollowed := true, recurses := true, named := ["math/bits.divideError", "math/bits.overflowError"], apart := false, narrowed := true }
def CatalogueCirclesUptoSaid : Prop := catalogueCirclesUptoRow.holds Try.pinned (OpenSpec.upto catalogueCirclesSpec)

/-- 'sewershedlaw28.CatalogueFlows', WHERE WHAT IT READS IS OF BULK AT MOST 1048576: true; the input reads as it did. -/
def catalogueFlowsUptoRow : OpenClaim := { program := "ytchapkjloicfnaa", sum := "9b3a9ecb6a35496fe0ab3e44271ef4477890599c16bf25cdd880e3868d9809a4", func := "sewershed/sewershedlaw28.CatalogueFlows", spec := "catalogueFlows", inPlace := ["math/bits.Sub64", "math/bits.Add64"], unfollowed := true, recurses := true, named := ["math/bits.divideError", "math/bits.overflowError"], apart := false, narrowed := true }
def CatalogueFlowsUptoSaid : Prop := catalogueFlowsUptoRow.holds Try.pinned (OpenSpec.upto catalogueFlowsSpec)

/-- 'sewershedlaw28.CatalogueEnough', WHERE WHAT IT READS IS OF BULK AT MOST 1048576: true; the input reads as it did. -/
def catalogueEnoughUptoRow : OpenClaim := { program := "ytchapkjloicfnaa", sum := "9b3a9ecb6a35496fe0ab3e44271ef4477890599c16bf25cdd880e3868d9809a4", func := "sewershed/sewershedlaw28.CatalogueEnough", spec := "catalogueEnough", inPlace := ["math/bits.Sub64", "math/bits.Add64"], unfollowed := true, recurses := true, named := ["math/bits.divideError", "math/bits.overflowError"], apart := false, narrowed := true }
def CatalogueEnoughUptoSaid : Prop := catalogueEnoughUptoRow.holds Try.pinned (OpenSpec.upto catalogueEnoughSpec)

/-- 'sewershedlaw28.CatalogueSpeeds', WHERE WHAT IT READS IS OF BULK AT MOST 1048576: true; the input reads as it did. -/
def catalogueSpeedsUptoRow : OpenClaim := { program := "ytchapkjloicfnaa", sum := "9b3a9ecb6a35496fe0ab3e44271ef4477890599c16bf25cdd880e3868d9809a4", func := "sewershed/sewershedlaw28.CatalogueSpeeds", spec := "catalogueSpeeds", inPlace := ["math/bits.Sub64", "math/bits.Add64"], unfollowed := true, recurses := true, named := ["math/bits.divideError", "math/bits.overflowError"], apart := false, narrowed := true }
def CatalogueSpeedsUptoSaid : Prop := catalogueSpeedsUptoRow.holds Try.pinned (OpenSpec.upto catalogueSpeedsSpec)

/-- 'sewershedlaw28.CatalogueMoves', WHERE WHAT IT READS IS OF BULK AT MOST 1048576: true; the input reads as it did. -/
def catalogueMovesUptoRow : OpenClaim := { program := "ytchapkjloicfnaa", sum := "9b3a9ecb6a35496fe0ab3e44271ef4477890599c16bf25cdd880e3868d9809a4", func := "sewershed/sewershedlaw28.CatalogueMoves", spec := "catalogueMoves", inPlace := ["math/bits.Sub64", "math/bits.Add64"], unfollowed := true, recurses := true, named := ["math/bits.divideError", "math/bits.overflowError"], apart := false, narrowed := true }
def CatalogueMovesUptoSaid : Prop := catalogueMovesUptoRow.holds Try.pinned (OpenSpec.upto catalogueMovesSpec)

end Rows
end Go.Proofs.Ytchapkjloicfnaa

/-
  No cell of these rows narrows 'for every input' (looked for: loops, veiled, ifaces, maps, wideKeys, modest, calm, conditions, laid).
  DERIVED. THE GIVEN ROWS OF THIS SEAT. 7 by the template 'for every input the law returns true; each argument reads behind the call as it read before'; 0 by the template 'total and deterministic' (their statements: YtpeelnjkppdkbaaTotals.lean).
  GIVEN WITH THE SEED: the statements are not yours to turn. If you find one false, say at which input.
  Laid BY PROGRAM, IN A SANDBOX (cutbox-rows.mjs): the forced cells as the released guide's own fill.sh prints them over the translation c091a1b5e4aced18… (all of the seat's roots in one cut). By AI agents, Wed Nov 11 2026. No macro, syntax, notation, axiom, sorry.
-/
import Derived.Test.YtpeelnjkppdkbaaChecked
import GoSem.Claim
import GoSem.ClaimJoined
import GoSem.ClaimMapViews
import Derived.JoinedTies
import Derived.KernelRfl
namespace Go.Proofs.Ytpeelnjkppdkbaa
/- THE CELL 'sum', in the pinned program and in every row, IS THE sha256 OF THE DUMP (.gsa) THAT YtpeelnjkppdkbaaProg.lean LOADS. Nothing in Lean hashes anything: it is a label: what it is worth is what the hold of that sum in a sandbox is worth. -/
noncomputable def Try.pinned : Pinned := { name := "ytpeelnjkppdkbaa", sum := "c091a1b5e4aced18d242f97dcacfc10b723d9e67a52407ecec7b21bd6d9f7ef8", checked := Try.checked }
namespace Rows
def none {H : Type} : Left H := { results := [], args := [] }

/-- 'sewershedlaw06.TableValues': WHATEVER THE INPUT: true; the input reads as it did. -/
def tableValuesSpec : ChangeSpec := { name := "tableValues", fn := fun _ => fun
  | [d1, d2] => { results := [.lit (.bool true)], args := [d1, d2] }
  | _ => none }
def tableValuesRow : OpenClaim := { program := "ytpeelnjkppdkbaa", sum := "c091a1b5e4aced18d242f97dcacfc10b723d9e67a52407ecec7b21bd6d9f7ef8", func := "sewershed/sewershedlaw06.TableValues", spec := "tableValues", inPlace := ["math/bits.Sub64", "math/bits.Add64"], unfollowed := true, recurses := true, named := ["math/bits.divideError", "math/bits.overflowError"], apart := false }
def TableValuesSaid : Prop := tableValuesRow.holds Try.pinned (OpenSpec.ofChange tableValuesSpec)

/-- ITS FALSE NEIGHBOUR: 'it returns false'. Refute it at one input. -/
def tableValuesWrong : ChangeSpec := { name := "tableValues", fn := fun _ => fun
  | [d1, d2] => { results := [.lit (.bool false)], args := [d1, d2] }
  | _ => none }
def TableValuesWrongFalsely : Prop := tableValuesRow.holds Try.pinned (OpenSpec.ofChange tableValuesWrong)

/-- 'sewershedlaw06.TableSpans': WHATEVER THE INPUT: true; the input reads as it did. -/
def tableSpansSpec : ChangeSpec := { name := "tableSpans", fn := fun _ => fun
  | [d1, d2] => { results := [.lit (.bool true)], args := [d1, d2] }
  | _ => none }
def tableSpansRow : OpenClaim := { program := "ytpeelnjkppdkbaa", sum := "c091a1b5e4aced18d242f97dcacfc10b723d9e67a52407ecec7b21bd6d9f7ef8", func := "sewershed/sewershedlaw06.TableSpans", spec := "tableSpans", inPlace := ["math/bits.Sub64", "math/bits.Add64"], unfollowed := true, recurses := true, named := ["math/bits.divideError", "math/bits.overflowError"], apart := false }
def TableSpansSaid : Prop := tableSpansRow.holds Try.pinned (OpenSpec.ofChange tableSpansSpec)

/-- ITS FALSE NEIGHBOUR: 'it returns false'. Refute it at one input. -/
def tableSpansWrong : ChangeSpec := { name := "tableSpans", fn := fun _ => fun
  | [d1, d2] => { results := [.lit (.bool false)], args := [d1, d2] }
  | _ => none }
def TableSpansWrongFalsely : Prop := tableSpansRow.holds Try.pinned (OpenSpec.ofChange tableSpansWrong)

/-- 'sewershedlaw06.TableInverses': WHATEVER THE INPUT: true; the input reads as it did. -/
def tableInversesSpec : ChangeSpec := { name := "tableInverses", fn := fun _ => fun
  | [d1, d2] => { results := [.lit (.bool true)], args := [d1, d2] }
  | _ => none }
def tableInversesRow : OpenClaim := { program := "ytpeelnjkppdkbaa", sum := "c091a1b5e4aced18d242f97dcacfc10b723d9e67a52407ecec7b21bd6d9f7ef8", func := "sewershed/sewershedlaw06.TableInverses", spec := "tableInverses", inPlace := ["math/bits.Sub64", "math/bits.Add64"], unfollowed := true, recurses := true, named := ["math/bits.divideError", "math/bits.overflowError"], apart := false }
def TableInversesSaid : Prop := tableInversesRow.holds Try.pinned (OpenSpec.ofChange tableInversesSpec)

/-- ITS FALSE NEIGHBOUR: 'it returns false'. Refute it at one input. -/
def tableInversesWrong : ChangeSpec := { name := "tableInverses", fn := fun _ => fun
  | [d1, d2] => { results := [.lit (.bool false)], args := [d1, d2] }
  | _ => none }
def TableInversesWrongFalsely : Prop := tableInversesRow.holds Try.pinned (OpenSpec.ofChange tableInversesWrong)

/-- 'sewershedlaw06.TableBelongs': WHATEVER THE INPUT: true; the input reads as it did. -/
def tableBelongsSpec : ChangeSpec := { name := "tableBelongs", fn := fun _ => fun
  | [d1, d2, d3] => { results := [.lit (.bool true)], args := [d1, d2, d3] }
  | _ => none }
def tableBelongsRow : OpenClaim := { program := "ytpeelnjkppdkbaa", sum := "c091a1b5e4aced18d242f97dcacfc10b723d9e67a52407ecec7b21bd6d9f7ef8", func := "sewershed/sewershedlaw06.TableBelongs", spec := "tableBelongs", inPlace := ["math/bits.Sub64", "math/bits.Add64"], unfollowed := true, recurses := true, named := ["math/bits.divideError", "math/bits.overflowError"], apart := false }
def TableBelongsSaid : Prop := tableBelongsRow.holds Try.pinned (OpenSpec.ofChange tableBelongsSpec)

/-- ITS FALSE NEIGHBOUR: 'it returns false'. Refute it at one input. -/
def tableBelongsWrong : ChangeSpec := { name := "tableBelongs", fn := fun _ => fun
  | [d1, d2, d3] => { results := [.lit (.bool false)], args := [d1, d2, d3] }
  | _ => none }
def TableBelongsWrongFalsely : Prop := tableBelongsRow.holds Try.pinned (OpenSpec.ofChange tableBelongsWrong)

/-- 'sewershedlaw06.TableSums': WHATEVER THE INPUT: true; the input reads as it did. -/
def tableSumsSpec : ChangeSpec := { name := "tableSums", fn := fun _ => fun
  | [d1, d2, d3] => { results := [.lit (.bool true)], args := [d1, d2, d3] }
  | _ => none }
def tableSumsRow : OpenClaim := { program := "ytpeelnjkppdkbaa", sum := "c091a1b5e4aced18d242f97dcacfc10b723d9e67a52407ecec7b21bd6d9f7ef8", func := "sewershed/sewershedlaw06.TableSums", spec := "tableSums", inPlace := ["math/bits.Sub64", "math/bits.Add64"], unfollowed := true, recurses := true, named := ["math/bits.divideError", "math/bits.overflowError"], apart := false }
def TableSumsSaid : Prop := tableSumsRow.holds Try.pinned (OpenSpec.ofChange tableSumsSpec)

/-- ITS FALSE NEIGHBOUR: 'it returns false'. Refute it at one input. -/
def tableSumsWrong : ChangeSpec := { name := "tableSums", fn := fun _ => fun
  | [d1, d2, d3] => { results := [.lit (.bool false)], args := [d1, d2, d3] }
  | _ => none }
def TableSumsWrongFalsely : Prop := tableSumsRow.holds Try.pinned (OpenSpec.ofChange tableSumsWrong)

/-- 'sewershedlaw06.TableCuts': WHATEVER THE INPUT: true; the input reads as it did. -/
def tableCutsSpec : ChangeSpec := { name := "tableCuts", fn := fun _ => fun
  | [d1, d2, d3, d4, d5] => { results := [.lit (.bool true)], args := [d1, d2, d3, d4, d5] }
  | _ => none }
def tableCutsRow : OpenClaim := { program := "ytpeelnjkppdkbaa", sum := "c091a1b5e4aced18d242f97dcacfc10b723d9e67a52407ecec7b21bd6d9f7ef8", func := "sewershed/sewershedlaw06.TableCuts", spec := "tableCuts", inPlace := ["math/bits.Sub64", "math/bits.Add64"], unfollowed := true, recurses := true, named := ["math/bits.divideError", "math/bits.overflowError"], apart := false }
def TableCutsSaid : Prop := tableCutsRow.holds Try.pinned (OpenSpec.ofChange tableCutsSpec)

/-- ITS FALSE NEIGHBOUR: 'it returns false'. Refute it at one input. -/
def tableCutsWrong : ChangeSpec := { name := "tableCuts", fn := fun _ => fun
  | [d1, d2, d3, d4, d5] => { results := [.lit (.bool false)], args := [d1, d2, d3, d4, d5] }
  | _ => none }
def TableCutsWrongFalsely : Prop := tableCutsRow.holds Try.pinned (OpenSpec.ofChange tableCutsWrong)

/-- 'sewershedlaw06.TableGrows': WHATEVER THE INPUT: true; the input reads as it did. -/
def tableGrowsSpec : ChangeSpec := { name := "tableGrows", fn := fun _ => fun
  | [d1, d2, d3, d4] => { results := [.lit (.bool true)], args := [d1, d2, d3, d4] }
  | _ => none }
def tableGrowsRow : OpenClaim := { program := "ytpeelnjkppdkbaa", sum := "c091a1b5e4aced18d242f97dcacfc10b723d9e67a52407ecec7b21bd6d9f7ef8", func := "sewershed/sewershedlaw06.TableGrows", spec := "tableGrows", inPlace := ["math/bits.Sub64", "math/bits.Add64"], unfollowed := true, recurses := true, named := ["math/bits.divideError", "math/bits.overflowError"], apart := false }
def TableGrowsSaid : Prop := tableGrowsRow.holds Try.pinned (OpenSpec.ofChange tableGrowsSpec)

/-- ITS FALSE NEIGHBOUR: 'it returns false'. Refute it at one input. -/
def tableGrowsWrong : ChangeSpec := { name := "tableGrows", fn := fun _ => fun
  | [d1, d2, d3, d4] => { results := [.lit (.bool false)], args := [d1, d2, d3, d4] }
  | _ => none }
def TableGrowsWrongFalsely : Prop := tableGrowsRow.holds Try.pinned (OpenSpec.ofChange tableGrowsWrong)

/- THE SECOND FORM. 'bulk': how many values and letters a reading holds, each counted each time it is reached (what is shared counts as often as it is met; a slice's spare places count too). A statement '..UptoSaid' is the law's where the arguments, and the package variables that the reading takes, are together of bulk at most 1048576: NARROWER than '..Said'. Prove '..Said' where nothing that the law and all that it calls make is longer than what came in: it says more and counts as full. Else prove '..UptoSaid'. A law counts once. -/
mutual
def uptoBulk {H : Type} : DataW H → Nat
  | .lit (.string bytes) => bytes.length + 1
  | .lit _ => 1
  | .nil => 1
  | .ptr d => uptoBulk d + 1
  | .slice elems spare => uptoBulkAll elems + uptoBulkAll spare + 1
  | .agg parts => uptoBulkAll parts + 1
  | .iface _ d => uptoBulk d + 1
  | .map entries => uptoBulkEntries entries + 1
  | .held _ => 1
def uptoBulkAll {H : Type} : List (DataW H) → Nat
  | [] => 0
  | d :: r => uptoBulk d + uptoBulkAll r
def uptoBulkEntries {H : Type} : List (Lit × DataW H) → Nat
  | [] => 0
  | x :: r => uptoBulkEntry x + uptoBulkEntries r
def uptoBulkEntry {H : Type} : Lit × DataW H → Nat
  | (.string bytes, d) => bytes.length + uptoBulk d + 1
  | (_, d) => uptoBulk d + 1
 end
def uptoSmall : (H : Type) → List (DataW H) → Bool := fun _ ds => decide (uptoBulkAll ds ≤ 1048576)
def OpenSpec.upto (s : _root_.Go.ChangeSpec) : _root_.Go.OpenSpec := { _root_.Go.OpenSpec.ofChange s with cond := some uptoSmall }

/-- 'sewershedlaw06.TableValues', WHERE WHAT IT READS IS OF BULK AT MOST 1048576: true; the input reads as it did. -/
def tableValuesUptoRow : OpenClaim := { program := "ytpeelnjkppdkbaa", sum := "c091a1b5e4aced18d242f97dcacfc10b723d9e67a52407ecec7b21bd6d9f7ef8", func := "sewershed/sewershedlaw06.TableValues", spec := "tableValues", inPlace := ["math/bits.Sub64", "math/bits.Add64"], unfollowed := true, recurses := true, named := ["math/bits.divideError", "math/bits.overflowError"], apart := false, narrowed := true }
def TableValuesUptoSaid : Prop := tableValuesUptoRow.holds Try.pinned (OpenSpec.upto tableValuesSpec)

/-- 'sewershedlaw06.TableSpans', WHERE WHAT IT READS IS OF BULK AT MOST 1048576: true; the input reads as it did. -/
def tableSpansUptoRow : OpenClaim := { program := "ytpeelnjkppdkbaa", sum := "c091a1b5e4aced18d242f97dcacfc10b723d9e67a52407ecec7b21bd6d9f7ef8", func := "sewershed/sewershedlaw06.TableSpans", spec := "tableSpans", inPlace := ["math/bits.Sub64", "math/bits.Add64"], unfollowed := true, recurses := true, named := ["math/bits.divideError", "math/bits.overflowError"], apart := false, narrowed := true }
def TableSpansUptoSaid : Prop := tableSpansUptoRow.holds Try.pinned (OpenSpec.upto tableSpansSpec)

/-- 'sewershedlaw06.TableInverses', WHERE WHAT IT READS IS OF BULK AT MOST 1048576: true; the input reads as it did. -/
def tableInversesUptoRow : OpenClaim := { program := "ytpeelnjkppdkbaa", sum := "c091a1b5e4aced18d242f97dcacfc10b723d9e67a52407ecec7b21bd6d9f7ef8", func := "sewershed/sewershedlaw06.TableInverses", spec := "tableInverses", inPlace := ["math/bits.Sub64", "math/bits.Add64"], unfollowed := true, recurses := true, named := ["math/bits.divideError", "math/bits.overflowError"], apart := false, narrowed := true }
def TableInversesUptoSaid : Prop := tableInversesUptoRow.holds Try.pinned (OpenSpec.upto tableInversesSpec)

/-- 'sewershedlaw06.TableBelongs', WHERE WHAT IT READS IS OF BULK AT MOST 1048576: true; the input reads as it did. -/
def tableBelongsUptoRow : OpenClaim := { program := "ytpeelnjkppdkbaa", sum := "c091a1b5e4aced18d242f97dcacfc10b723d9e67a52407ecec7b21bd6d9f7ef8", func := "sewershed/sewershedlaw06.TableBelongs", spec := "tableBelongs", inPlace := ["math/bits.Sub64", "math/bits.Add64"], unfollowed := true, recurses := true, named := ["math/bits.divideError", "math/bits.overflowError"], apart := false, narrowed := true }
def TableBelongsUptoSaid : Prop := tableBelongsUptoRow.holds Try.pinned (OpenSpec.upto tableBelongsSpec)

/-- 'sewershedlaw06.TableSums', WHERE WHAT IT READS IS OF BULK AT MOST 1048576: true; the input reads as it did. -/
def tableSumsUptoRow : OpenClaim := { program := "ytpeelnjkppdkbaa", sum := "c091a1b5e4aced18d242f97dcacfc10b723d9e67a52407ecec7b21bd6d9f7ef8", func := "sewershed/sewershedlaw06.TableSums", spec := "tableSums", inPlace := ["math/bits.Sub64", "math/bits.Add64"], unfollowed := true, recurses := true, named := ["math/bits.divideError", "math/bits.overflowError"], apart := false, narrowed := true }
def TableSumsUptoSaid : Prop := tableSumsUptoRow.holds Try.pinned (OpenSpec.upto tableSumsSpec)

/-- 'sewershedlaw06.TableCuts', WHERE WHAT IT READS IS OF BULK AT MOST 1048576: true; the input reads as it did. -/
def tableCutsUptoRow : OpenClaim := { program := "ytpeelnjkppdkbaa", sum := "c091a1b5e4aced18d242f97dcacfc10b723d9e67a52407ecec7b21bd6d9f7ef8", func := "sewershed/sewershedlaw06.TableCuts", spec := "tableCuts", inPlace := ["math/bits.Sub64", "math/bits.Add64"], unfollowed := true, recurses := true, named := ["math/bits.divideError", "math/bits.overflowError"], apart := false, narrowed := true }
def TableCutsUptoSaid : Prop := tableCutsUptoRow.holds Try.pinned (OpenSpec.upto tableCutsSpec)

/-- 'sewershedlaw06.TableGrows', WHERE WHAT IT READS IS OF BULK AT MOST 1048576: true; the input reads as it did. -/
def tableGrowsUptoRow : OpenClaim := { program := "ytpeelnjkppdkbaa", sum := "c091a1b5e4aced18d242f97dcacfc10b723d9e67a52407ecec7b21bd6d9f7ef8", func := "sewershed/sewershedlaw06.TableGrows", spec := "tableGrows", inPlace := ["math/bits.Sub64", "math/bits.Add64"], unfollowed := true, recurses := true, named := ["math/bits.divideError", "math/bits.overflowError"], apart := false, narrowed := true }
def TableGrowsUptoSaid : Prop := tableGrowsUptoRow.holds Try.pinned (OpenSpec.upto tableGrowsSpec)

end Rows
end Go.Proofs.Ytpeelnjkppdkbaa

/- A law's arguments opened: a table, and a span by value. -/
import Derived.Test.YtapfmbnppeonkaaGreatDoorOpen
namespace Go.Proofs.YtapfmbnppeonkaaGreatDoor
open Go.RowKit Go.WideShapes Go.ChangeShapes Go.Deep Go.Joins
set_option linter.unusedVariables false

section
variable {H : Type} {enc : TypeId × Value → H} {W : World}
set_option maxRecDepth 100000 in
theorem open_tab {b0 : Nat} {v : Value} {d : DataW H} {p : List MemPlace} (hv : Value.okWide Tryz.prog W .any b0 23 v) (h : DataW.Trod enc Tryz.prog W 0 (fun _ => true) true 23 v d p) :
    ∃ (A : Option Addr) (n c : Nat) (X Y : Nat → Int), v = .slice A n c ∧ TabIn W A n X Y := by
  obtain ⟨a, len, cap, rfl⟩ := okWide_slice Tryz.underlying23 hv
  obtain ⟨fuel, hf⟩ := h
  exact open_table (v := .slice a len cap) (by simpa [Value.cells] using hf)
end
end Go.Proofs.YtapfmbnppeonkaaGreatDoor

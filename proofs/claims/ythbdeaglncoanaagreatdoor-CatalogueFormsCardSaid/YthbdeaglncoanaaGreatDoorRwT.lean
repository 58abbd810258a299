/- The package's Rows. -/
import Derived.Test.YthbdeaglncoanaaGreatDoorRowP
namespace Go.Proofs.YthbdeaglncoanaaGreatDoor
open Go.RowKit
set_option linter.unusedVariables false
set_option linter.unusedSimpArgs false

theorem infoS : (Tryz.prog.info? 9).map (fun i => (i.zero, i.size, i.bytes)) = some (some (.string ByteArray.empty), 1, 16) := by kernel_rfl
/-- What the loops keep: the cell of the width, and the frame. -/
def WMem (w wr : World) (g : Nat) (W : Int) : Prop := Blk wr g 3 #[.int .i64 W] ∧ Below w.heap.size w wr
theorem WMem.call {w wr w' : World} {g : Nat} {W : Int} (h : WMem w wr g W) (hb : Below wr.heap.size wr w') : WMem w w' g W := ⟨h.1.call hb, below_step h.2 hb⟩
/-- The rows that are owned. -/
def RMem (w wr : World) (u : Value) (N : Nat) (R : List ByteArray) : Prop := wr.ownsRow w.heap.size 9 1 u N (sc R) ∧ Below w.heap.size w wr
theorem RMem.call {w wr w' : World} {u : Value} {N : Nat} {R : List ByteArray} (h : RMem w wr u N R) (hb : Below wr.heap.size wr w') : RMem w w' u N R := ⟨own_below h.1 hb, below_step h.2 hb⟩
theorem RMem.app {w wr w' : World} {u v : Value} {N : Nat} {R : List ByteArray} {x : ByteArray} (h : RMem w wr u N R) {cs : Array Value} (hown : w'.ownsRow w.heap.size 9 1 v (N + 1) (sc R ++ [.string x])) (hg : (wr.alloc (.cells cs 9)).grownBy w' u.ownBlock) : RMem w w' v (N + 1) (R ++ [x]) :=
  ⟨by rw [sc_append]; exact hown, below_own (h.1.alloc _) (h.2.alloc h.2.size _) hg⟩
theorem RMem.set {w wr : World} {g cap N k : Nat} {R : List ByteArray} {x : ByteArray} (h : RMem w wr (.slice (some ⟨g, 0, none⟩) N cap) N R) : RMem w (wr.setCell ⟨g, k, none⟩ (.string x)) (.slice (some ⟨g, 0, none⟩) N cap) N (R.set k x) := by
  refine ⟨?_, h.2.setCell (p := ⟨g, k, none⟩) (h.1.lt g rfl).1 _⟩
  have := (h.1.stored k (.string x)).1
  rw [sc_set] at this
  exact this
theorem RMem.post {w w1 wr : World} {W : Int} {n : Nat} {X : Nat → ByteArray} {u : Value} {R : List ByteArray} {N : Nat} (h : RMem w1 wr u N R) (hw : Below w.heap.size w w1) (hN : N = R.length) (h300 : N ≤ 300) (hR : RowsIs W n X R 0) : RowsPost w W n X (.returned (.tuple #[u, .int .i64 0])) wr := by
  rcases h.1.2 with ⟨hv, h0⟩ | ⟨g, cap, cur, hv, _, _, hnc, _⟩
  · exact ⟨R, 0, none, 0, N, hN, hR, by rw [hv, h0], ⟨by omega, .inl h0⟩, below_step hw h.2, by omega⟩
  · have hown := h.1
    rw [hv, hN] at hown
    exact ⟨R, 0, some ⟨g, 0, none⟩, cap, N, hN, hR, by rw [hv], ⟨by omega, .inr ⟨g, 0, rfl, by rw [hN]; exact str_of_own hown⟩⟩, below_step hw h.2, hnc⟩
theorem RMem.form {w wr : World} {u : Value} {N : Nat} {R : List ByteArray} (h : RMem w wr u N R) : ∃ A cap, u = .slice A N cap := by
  rcases h.1.2 with ⟨hv, h0⟩ | ⟨g, cap, cur, hv, _⟩
  · exact ⟨none, 0, by rw [hv, h0]⟩
  · exact ⟨_, cap, hv⟩
end Go.Proofs.YthbdeaglncoanaaGreatDoor

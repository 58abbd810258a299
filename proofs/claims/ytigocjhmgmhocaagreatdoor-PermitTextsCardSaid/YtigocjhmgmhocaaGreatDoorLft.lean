/- The package's Left and Merge. -/
import Derived.Test.YtigocjhmgmhocaaGreatDoorYrs
import Derived.Test.YtigocjhmgmhocaaGreatDoorPrmQ
namespace Go.Proofs.YtigocjhmgmhocaaGreatDoor
open Go.RowKit
set_option linter.unusedVariables false
set_option linter.unusedSimpArgs false

/-- What Left answers. -/
noncomputable def leftRes (ok : Prop) (E : Evs) (n : Nat) (from_ sec t ev tot : Int) : Value :=
  if leftE ok E n from_ sec t = 0 then .tuple #[.int .i64 (leftN E n from_ sec t ev), .int .i64 (leftV E n from_ sec t tot), .int .i64 0] else .tuple #[.int .i64 0, .int .i64 0, .int .i64 (leftE ok E n from_ sec t)]
theorem left_bad {ok : Prop} {E : Evs} {n : Nat} {from_ sec t ev tot er : Int} (h : leftE ok E n from_ sec t = er) (h0 : er ≠ 0) : leftRes ok E n from_ sec t ev tot = .tuple #[.int .i64 0, .int .i64 0, .int .i64 er] := by
  unfold leftRes; rw [h, if_neg h0]
theorem acc_cells {w : World} {g : Nat} {t : TypeId} {a b : Value} (h : Blk w g t #[a, b]) : w.cell? ⟨g, 0, none⟩ = some a ∧ w.cell? ⟨g, 1, none⟩ = some b := ⟨h.cell 0, h.cell 1⟩
theorem ev_cells {w : World} {g : Nat} {t : TypeId} {a b c d : Value} (h : Blk w g t #[a, b, c, d]) : w.cell? ⟨g, 0, none⟩ = some a ∧ w.cell? ⟨g, 1, none⟩ = some b ∧ w.cell? ⟨g, 2, none⟩ = some c ∧ w.cell? ⟨g, 3, none⟩ = some d := ⟨h.cell 0, h.cell 1, h.cell 2, h.cell 3⟩
def LMem (w wr : World) (g : Nat) (a b : Int) : Prop := Blk wr g 77 #[.int .i64 a, .int .i64 b] ∧ w.heap.size ≤ g ∧ Below w.heap.size w wr
theorem LMem.call {w wr w' : World} {g : Nat} {a b : Int} (h : LMem w wr g a b) (hb : Below wr.heap.size wr w') : LMem w w' g a b := ⟨h.1.call hb, h.2.1, below_step h.2.2 hb⟩
theorem LMem.set {w wr : World} {g : Nat} {a b c d : Int} (h : LMem w wr g a b) : LMem w ((wr.setCell ⟨g, 0, none⟩ (.int .i64 c)).setCell ⟨g, 1, none⟩ (.int .i64 d)) g c d :=
  ⟨(h.1.set_ 0 _).set_ 1 _, h.2.1, (h.2.2.setCell (p := ⟨g, 0, none⟩) h.2.1 _).setCell (p := ⟨g, 1, none⟩) h.2.1 _⟩
theorem blk5_set {w : World} {g : Nat} {t : TypeId} {cs : Array Value} {a b c d e : Value} (h : Blk w g t cs) (hc : cs.size = 5) : Blk (((((w.setCell ⟨g, 0, none⟩ a).setCell ⟨g, 1, none⟩ b).setCell ⟨g, 2, none⟩ c).setCell ⟨g, 3, none⟩ d).setCell ⟨g, 4, none⟩ e) g t #[a, b, c, d, e] := by
  obtain ⟨l⟩ := cs
  match l, hc with
  | [x0, x1, x2, x3, x4], _ => exact ((((h.set_ 0 _).set_ 1 _).set_ 2 _).set_ 3 _).set_ 4 _
theorem bytes_ext39 {a b : ByteArray} (h : a.toList = b.toList) : a = b := by
  rw [ByteArray.toList_eq, ByteArray.toList_eq] at h
  obtain ⟨⟨l⟩⟩ := a
  obtain ⟨⟨m⟩⟩ := b
  have : l = m := h
  rw [this]
def zeroPm : Value := .agg #[.string ⟨#[]⟩, .string ⟨#[]⟩, .int .i64 0, .int .i64 0, .int .i64 0]
/-- What Merge answers. -/
def mergeRes (nm nd : ByteArray) (ev vol tot : Int) (qm qd : ByteArray) (ev' vol' tot' : Int) : Value :=
  if validB nm nd ev vol tot = true ∧ validB qm qd ev' vol' tot' = true then (if nd = qd then .tuple #[.agg #[.string nm, .string nd, .int .i64 (min ev ev'), .int .i64 (min vol vol'), .int .i64 (min tot tot')], .int .i64 0] else .tuple #[zeroPm, .int .i64 25]) else .tuple #[zeroPm, .int .i64 1]
theorem merge_end {w wx : World} {cs : Array Value} {a b c d e : Value} (h : Blk wx (w.heap.size + 1 + 1) 26 cs) (hc : cs.size = 5) (hb : Below w.heap.size w wx) :
    Blk (((((wx.setCell ⟨w.heap.size + 1 + 1, 0, none⟩ a).setCell ⟨w.heap.size + 1 + 1, 1, none⟩ b).setCell ⟨w.heap.size + 1 + 1, 2, none⟩ c).setCell ⟨w.heap.size + 1 + 1, 3, none⟩ d).setCell ⟨w.heap.size + 1 + 1, 4, none⟩ e) (w.heap.size + 1 + 1) 26 #[a, b, c, d, e] ∧
    Below w.heap.size w (((((wx.setCell ⟨w.heap.size + 1 + 1, 0, none⟩ a).setCell ⟨w.heap.size + 1 + 1, 1, none⟩ b).setCell ⟨w.heap.size + 1 + 1, 2, none⟩ c).setCell ⟨w.heap.size + 1 + 1, 3, none⟩ d).setCell ⟨w.heap.size + 1 + 1, 4, none⟩ e) :=
  ⟨blk5_set h hc, ((((hb.setCell (p := ⟨w.heap.size + 1 + 1, 0, none⟩) (by show w.heap.size ≤ w.heap.size + 1 + 1; omega) _).setCell (p := ⟨w.heap.size + 1 + 1, 1, none⟩) (by show w.heap.size ≤ w.heap.size + 1 + 1; omega) _).setCell (p := ⟨w.heap.size + 1 + 1, 2, none⟩) (by show w.heap.size ≤ w.heap.size + 1 + 1; omega) _).setCell (p := ⟨w.heap.size + 1 + 1, 3, none⟩) (by show w.heap.size ≤ w.heap.size + 1 + 1; omega) _).setCell (p := ⟨w.heap.size + 1 + 1, 4, none⟩) (by show w.heap.size ≤ w.heap.size + 1 + 1; omega) _⟩
theorem frozen5 {w : World} {g : Nat} {t : TypeId} {cs : Array Value} (h : Blk w g t cs) : w.frozen? ⟨g, 0, none⟩ = false ∧ w.frozen? ⟨g, 1, none⟩ = false ∧ w.frozen? ⟨g, 2, none⟩ = false ∧ w.frozen? ⟨g, 3, none⟩ = false ∧ w.frozen? ⟨g, 4, none⟩ = false := ⟨h.frozen 0, h.frozen 1, h.frozen 2, h.frozen 3, h.frozen 4⟩
end Go.Proofs.YtigocjhmgmhocaaGreatDoor

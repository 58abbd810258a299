/- The reference's finding and First. -/
import Derived.Test.YtfldmnikdejekaaGreatDoorRYs
import Derived.Test.YtfldmnikdejekaaGreatDoorAcF
import Derived.Test.YtfldmnikdejekaaGreatDoorFnd
import Derived.Test.YtfldmnikdejekaaGreatDoorFmt
namespace Go.Proofs.YtfldmnikdejekaaGreatDoor
open Go.RowKit
set_option linter.unusedVariables false
set_option linter.unusedSimpArgs false

theorem fnd_cells {w : World} {g : Nat} {t : TypeId} {a b : Value} (h : Blk w g t #[a, b]) : w.cell? ⟨g, 0, none⟩ = some a ∧ w.cell? ⟨g, 1, none⟩ = some b := ⟨h.cell 0, h.cell 1⟩
theorem fnd_end {w wx : World} {a b : Value} {cs : Array Value} (h : Blk wx w.heap.size 162 cs) (hb : Below w.heap.size w wx) (hc : cs.size = 2) :
    Blk ((wx.setCell ⟨w.heap.size, 0, none⟩ a).setCell ⟨w.heap.size, 1, none⟩ b) w.heap.size 162 #[a, b] ∧ Below w.heap.size w ((wx.setCell ⟨w.heap.size, 0, none⟩ a).setCell ⟨w.heap.size, 1, none⟩ b) := by
  obtain ⟨l⟩ := cs
  match l, hc with
  | [x, y], _ => exact ⟨(h.set_ 0 _).set_ 1 _, (hb.setCell (p := ⟨w.heap.size, 0, none⟩) (Nat.le_refl _) _).setCell (p := ⟨w.heap.size, 1, none⟩) (Nat.le_refl _) _⟩
set_option maxRecDepth 100000 in
theorem rfinding (kind n : Int) (h1 : -9223372036854775808 < n) (h2 : n < 9223372036854775808) (w : World) : Calls Tryz.prog 172 #[.int .i64 kind, .int .i64 n] w fun e w' => e = .returned (.agg #[.int .i64 kind, .string (fnm n)]) ∧ Below w.heap.size w w' := by
  have SF := Lib.hid fun w => rformat n h1 h2 w
  have B0 : Hid (Blk (w.alloc (Obj.cells #[.int .i64 0, .string ⟨#[]⟩] 162)) w.heap.size 162 #[.int .i64 0, .string ⟨#[]⟩]) := Blk.new _ _ _
  have W0 : Hid (Below w.heap.size w (w.alloc (Obj.cells #[.int .i64 0, .string ⟨#[]⟩] 162))) := by show Below _ _ _; (repeat' (first | assumption | exact Below.refl _ _ | exact Below.size (by assumption) | (refine Below.setCell ?_ ?_ _) | (refine Below.alloc ?_ ?_ _) | (refine Below.drew ?_) | (refine below_drewN ?_ _) | (refine Below.trans ?_ (Below.mono ‹Below _ _ _› ?_)) | omega | (simp; done) | (simp; omega) | (simp at *; omega)))
  unfold fnm
  generalize (⟨(Lib.itoa n).toArray⟩ : ByteArray) = s at SF ⊢
  clear h1 h2
  go_enter Tryz.func172, Tryz.ntmps172
  go_wp2_with (first
    | (go_at_call 120
       with_reducible refine (SF.out _).mono ?_
       rintro e w1 ⟨rfl, hb1⟩
       have B1 := Lib.hid (B0.out.call hb1)
       have W1 := Lib.hid (below_step W0.out hb1)
       obtain ⟨z0, z1⟩ := fnd_cells B1.out
       have f0 := B1.out.frozen 0
       have f1 := B1.out.frozen 1
       have l1 := B1.out.lt
       clear hb1))
  obtain ⟨HE1, he2⟩ := fnd_end (w := w) (a := .int .i64 kind) (b := .string s) B1.out W1.out rfl
  have HE2 := Lib.hid he2
  generalize ((w1.setCell ⟨w.heap.size, 0, none⟩ (.int .i64 kind)).setCell ⟨w.heap.size, 1, none⟩ (.string s)) = wq at HE1 he2 HE2 ⊢
  obtain ⟨s0, s1⟩ := fnd_cells HE1
  refine bodyPost_ret (v := .agg #[.int .i64 kind, .string s]) (by simp [results, Tryz.results172, go_sem, s0, s1]) rfl ⟨rfl, HE2.out⟩
end Go.Proofs.YtfldmnikdejekaaGreatDoor

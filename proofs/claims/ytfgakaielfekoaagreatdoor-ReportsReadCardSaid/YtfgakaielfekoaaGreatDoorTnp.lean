/- Lines of three words; rows of lines. -/
import Derived.Test.YtfgakaielfekoaaGreatDoorStl
import Derived.Test.YtfgakaielfekoaaGreatDoorRst
import Derived.Deep.RegionHeld3
namespace Go.Proofs.YtfgakaielfekoaaGreatDoor
open Go.RowKit
set_option linter.unusedVariables false
set_option linter.unusedSimpArgs false

theorem it3_at {w : World} {g : Nat} {t : TypeId} {nm lit : ByteArray} {z : Int} (h : Blk w g t #[.iface 9 (.string nm), .iface 9 (.string lit), .iface 3 (.int .i64 z)]) : ItAt w g 0 3 (fun k => if k = 0 then .s nm else if k = 1 then .s lit else .n z) :=
  ⟨h.lt, fun k hk => by
    rw [Nat.zero_add]
    have : k = 0 ∨ k = 1 ∨ k = 2 := by omega
    rcases this with rfl | rfl | rfl
    · exact h.cell 0
    · exact h.cell 1
    · exact h.cell 2⟩
theorem tline3 (nm lit : ByteArray) (z : Int) (h1 : nm.size ≤ 600) (h2 : lit.size ≤ 600) (hz : -9223372036854775808 < z ∧ z < 9223372036854775808) (g c : Nat) (t : TypeId) (w : World) (hE : Env5 w) (hB : Blk w g t #[.iface 9 (.string nm), .iface 9 (.string lit), .iface 3 (.int .i64 z)]) :
    Calls Tryz.prog 49 #[.slice (some ⟨g, 0, none⟩) 3 c] w fun e w' => e = .returned (.string (ln3 nm lit z)) ∧ Below w.heap.size w w' :=
  tline g 0 3 c _ (by omega) (fun k hk => by
    have : k = 0 ∨ k = 1 ∨ k = 2 := by omega
    rcases this with rfl | rfl | rfl
    · exact h1
    · exact h2
    · exact hz) w hE (it3_at hB)
theorem RMem5.app2 {w wr w' : World} {u v : Value} {N : Nat} {R : List ByteArray} {a b : ByteArray} {t : TypeId} {cs : Array Value} (h : RMem5 w wr u N R) (hown : w'.ownsRow w.heap.size 9 1 v (N + 2) (sc R ++ [.string a, .string b])) (hg : (wr.alloc (.cells cs t)).grownBy w' u.ownBlock) : RMem5 w w' v (N + 2) (R ++ [a, b]) :=
  ⟨by have e : sc (R ++ [a, b]) = sc R ++ [.string a, .string b] := by simp [sc]
      rw [e]; exact hown, below_own (h.1.alloc _) (h.2.alloc h.2.size _) hg⟩
theorem blk_app {w wx w' : World} {u : Value} {N g : Nat} {R : List ByteArray} {t : TypeId} {cs cs' : Array Value} (h : Blk wx g t cs) (hm : RMem5 w wx u N R) (hne : 9 ≠ t) (hg : (wx.alloc (.cells cs' 9)).grownBy w' u.ownBlock) : Blk w' g t cs :=
  (h.alloc _).grown hg (fun e => own_blk_ne (hm.1.alloc (.cells cs' 9)) (h.alloc _) hne e.symm)
theorem Blk.drew1 {w : World} {g : Nat} {t : TypeId} {cs : Array Value} (h : Blk w g t cs) : Blk w.drew g t cs := h
theorem blk_thr (w : World) (t1 t2 t3 : TypeId) (c1 c2 c3 : Array Value) : Blk (((w.alloc (Obj.cells c1 t1)).alloc (Obj.cells c2 t2)).alloc (Obj.cells c3 t3)) (w.heap.size + 1 + 1) t3 c3 :=
  (by simpa using Blk.new ((w.alloc (Obj.cells c1 t1)).alloc (Obj.cells c2 t2)) t3 c3)
theorem h63_2 {n : Nat} (h : n ≤ 2000) : n + 2 ≤ maxLen := by simp only [maxLen]; omega
theorem hby_2 {n : Nat} (h : n ≤ 2000) : (n + 2) * 16 ≤ 140737488355328 := by omega
theorem mx_max (f : Nat → Int) (k : Nat) : mx f (k + 1) = max (mx f k) (f k) := by
  show (if mx f k < f k then f k else mx f k) = _
  rw [max_pk]
end Go.Proofs.YtfgakaielfekoaaGreatDoor

/- Merged texts of these proofs: RowP, RwT. -/
import Derived.Test.YtghefgifhebniaaGreatDoorStrs
import Derived.Test.YtghefgifhebniaaGreatDoorFmt
namespace Go.Proofs.YtghefgifhebniaaGreatDoor
open Go.RowKit
set_option linter.unusedVariables false
set_option linter.unusedSimpArgs false
def byt (s : ByteArray) (k : Nat) : Nat := (s.data.toList.getD k 0).toNat
def badAt (s : ByteArray) : Prop := s.size = 0 ∨ ∃ j, j < s.size ∧ (byt s j < 33 ∨ 126 < byt s j)
def sp : ByteArray := ⟨#[32]⟩
def putR (W : Int) (out : List ByteArray) (s : ByteArray) : List ByteArray :=
 if out = [] then [s] else if ((out.getD (out.length - 1) ByteArray.empty).size : Int) + 1 + (s.size : Int) ≤ W then out.set (out.length - 1) (out.getD (out.length - 1) ByteArray.empty ++ (sp ++ s)) else out ++ [s]
def rowsTo (W : Int) (X : Nat → ByteArray) : Nat → List ByteArray
 | 0 => []
 | i + 1 => putR W (rowsTo W X i) (X i)
inductive RowsIs (W : Int) (n : Nat) (X : Nat → ByteArray) : List ByteArray → Int → Prop where
 | range (h : W < 1 ∨ 500 < W) : RowsIs W n X [] 2
 | form (h : 1 ≤ W ∧ W ≤ 500) (hb : ∃ i, i < n ∧ badAt (X i)) : RowsIs W n X [] 7
 | big (h : 1 ≤ W ∧ W ≤ 500) (hg : ∀ i, i < n → ¬ badAt (X i)) (hb : ∃ i, i < n ∧ W < ((X i).size : Int)) : RowsIs W n X [] 5
 | ok (h : 1 ≤ W ∧ W ≤ 500) (hg : ∀ i, i < n → ¬ badAt (X i)) (hs : ∀ i, i < n → ((X i).size : Int) ≤ W) : RowsIs W n X (rowsTo W X n) 0
theorem RowsIs.uniq {W : Int} {n : Nat} {X : Nat → ByteArray} {R R' : List ByteArray} {e e' : Int} (h : RowsIs W n X R e) (h' : RowsIs W n X R' e') : R = R' ∧ e = e' := by
 cases h with
 | range h => cases h' with
   | range h' => exact ⟨rfl, rfl⟩
   | form h' _ => omega
   | big h' _ _ => omega
   | ok h' _ _ => omega
 | form h hb => cases h' with
   | range h' => omega
   | form h' _ => exact ⟨rfl, rfl⟩
   | big h' hg _ => obtain ⟨i, hi, hx⟩ := hb; exact absurd hx (hg i hi)
   | ok h' hg _ => obtain ⟨i, hi, hx⟩ := hb; exact absurd hx (hg i hi)
 | big h hg hb => cases h' with
   | range h' => omega
   | form h' hb' => obtain ⟨i, hi, hx⟩ := hb'; exact absurd hx (hg i hi)
   | big h' _ _ => exact ⟨rfl, rfl⟩
   | ok h' _ hs => obtain ⟨i, hi, hx⟩ := hb; have := hs i hi; omega
 | ok h hg hs => cases h' with
   | range h' => omega
   | form h' hb' => obtain ⟨i, hi, hx⟩ := hb'; exact absurd hx (hg i hi)
   | big h' _ hb' => obtain ⟨i, hi, hx⟩ := hb'; have := hs i hi; omega
   | ok h' _ _ => exact ⟨rfl, rfl⟩
def sc (L : List ByteArray) : List Value := L.map Value.string
theorem sc_append (a b : List ByteArray) : sc (a ++ b) = sc a ++ sc b := by unfold sc; rw [List.map_append]
theorem sc_set (L : List ByteArray) (k : Nat) (x : ByteArray) : (sc L).set k (.string x) = sc (L.set k x) := by unfold sc; rw [List.map_set]
theorem sc_at {L : List ByteArray} {k : Nat} (h : k < L.length) : (sc L)[k]? = some (.string (L.getD k ByteArray.empty)) := by
 unfold sc; simp [List.getD, h]
theorem str_of_own {w : World} {base g cap : Nat} {t : TypeId} {L : List ByteArray} (h : w.ownsRow base t 1 (.slice (some ⟨g, 0, none⟩) L.length cap) L.length (sc L)) : StrAt w g 0 L.length (fun k => L.getD k ByteArray.empty) := by
 refine ⟨(h.lt g rfl).2, fun k hk => ?_⟩
 rw [Nat.zero_add, h.cellAt k (by omega), sc_at hk]
def RowsPost (w : World) (W : Int) (n : Nat) (X : Nat → ByteArray) (e : Ending) (w' : World) : Prop := ∃ (R : List ByteArray) (err : Int) (A : Option Addr) (cap N : Nat), N = R.length ∧ RowsIs W n X R err ∧
 e = .returned (.tuple #[.slice A N cap, .int .i64 err]) ∧ StrIn w' A N (fun k => R.getD k ByteArray.empty) ∧ Below w.heap.size w w' ∧ N ≤ cap
end Go.Proofs.YtghefgifhebniaaGreatDoor
namespace Go.Proofs.YtghefgifhebniaaGreatDoor
open Go.RowKit
set_option linter.unusedVariables false
set_option linter.unusedSimpArgs false
theorem infoS : (Tryz.prog.info? 9).map (fun i => (i.zero, i.size, i.bytes)) = some (some (.string ByteArray.empty), 1, 16) := by kernel_rfl
theorem h63_s {n : Nat} (h : n ≤ 300) : n + 1 ≤ maxLen := by simp only [maxLen]; omega
theorem hby_s {n : Nat} (h : n ≤ 300) : (n + 1) * 16 ≤ 140737488355328 := by omega
def WMem (w wr : World) (g : Nat) (W : Int) : Prop := Blk wr g 3 #[.int .i64 W] ∧ Below w.heap.size w wr
theorem WMem.call {w wr w' : World} {g : Nat} {W : Int} (h : WMem w wr g W) (hb : Below wr.heap.size wr w') : WMem w w' g W := ⟨h.1.call hb, below_step h.2 hb⟩
def RMem (w wr : World) (u : Value) (N : Nat) (R : List ByteArray) : Prop := wr.ownsRow w.heap.size 9 1 u N (sc R) ∧ Below w.heap.size w wr
theorem RMem.call {w wr w' : World} {u : Value} {N : Nat} {R : List ByteArray} (h : RMem w wr u N R) (hb : Below wr.heap.size wr w') : RMem w w' u N R := ⟨own_below h.1 hb, below_step h.2 hb⟩
theorem RMem.app {w wr w' : World} {u v : Value} {N : Nat} {R : List ByteArray} {x : ByteArray} (h : RMem w wr u N R) {cs : Array Value} (hown : w'.ownsRow w.heap.size 9 1 v (N + 1) (sc R ++ [.string x])) (hg : (wr.alloc (.cells cs 9)).grownBy w' u.ownBlock) : RMem w w' v (N + 1) (R ++ [x]) :=
 ⟨by rw [sc_append]; exact hown, below_own (h.1.alloc _) (h.2.alloc h.2.size _) hg⟩
theorem RMem.set {w wr : World} {g cap N k : Nat} {R : List ByteArray} {x : ByteArray} (h : RMem w wr (.slice (some ⟨g, 0, none⟩) N cap) N R) : RMem w (wr.setCell ⟨g, k, none⟩ (.string x)) (.slice (some ⟨g, 0, none⟩) N cap) N (R.set k x) := by
 refine ⟨?_, h.2.setCell (p := ⟨g, k, none⟩) (h.1.lt g rfl).1 _⟩
 have := (h.1.stored k (.string x)).1
 rw [sc_set] at this
 exact this
theorem RMem.post {w w1 wr : World} {W : Int} {n : Nat} {X : Nat → ByteArray} {u : Value} {R : List ByteArray} {N : Nat} (h : RMem w1 wr u N R) (hw : Below w.heap.size w w1) (hN : N = R.length) (h300 : N ≤ 300) (hR : RowsIs W n X R 0) : RowsPost w W n X (.returned (.tuple #[u, .int .i64 0])) wr := by
 rcases h.1.2 with ⟨hv, h0⟩ | ⟨g, cap, cur, hv, _, _, hnc, _⟩
 · exact ⟨R, 0, none, 0, N, hN, hR, by rw [hv, h0], ⟨by omega, .inl h0⟩, below_step hw h.2, by omega⟩
 · have hown := h.1
   rw [hv, hN] at hown
   exact ⟨R, 0, some ⟨g, 0, none⟩, cap, N, hN, hR, by rw [hv], ⟨by omega, .inr ⟨g, 0, rfl, by rw [hN]; exact str_of_own hown⟩⟩, below_step hw h.2, hnc⟩
theorem RMem.form {w wr : World} {u : Value} {N : Nat} {R : List ByteArray} (h : RMem w wr u N R) : ∃ A cap, u = .slice A N cap := by
 rcases h.1.2 with ⟨hv, h0⟩ | ⟨g, cap, cur, hv, _⟩
 · exact ⟨none, 0, by rw [hv, h0]⟩
 · exact ⟨_, cap, hv⟩
end Go.Proofs.YtghefgifhebniaaGreatDoor

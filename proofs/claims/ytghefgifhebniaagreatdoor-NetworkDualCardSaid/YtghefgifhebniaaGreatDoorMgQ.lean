/- Merged texts of these proofs: RowP, RwT. -/
import Derived.Test.YtghefgifhebniaaGreatDoorStrs
import Derived.Test.YtghefgifhebniaaGreatDoorFmt
namespace Go.Proofs.YtghefgifhebniaaGreatDoor
open Go.RowKit
set_option linter.unusedVariables false
set_option linter.unusedSimpArgs false

def byt (s : ByteArray) (k : Nat) : Nat := (s.data.toList.getD k 0).toNat
theorem byt_at (s : ByteArray) (k : Nat) (h : k < s.size) : (s[k]'h).toNat = byt s k := by
  unfold byt
  have hl : k < s.data.toList.length := by rw [← size_list]; exact h
  rw [List.getD_eq_getElem?_getD, List.getElem?_eq_getElem hl]
  rfl
theorem byt_lt (s : ByteArray) (k : Nat) : byt s k < 256 := (s.data.toList.getD k 0).toNat_lt
def badAt (s : ByteArray) : Prop := s.size = 0 ∨ ∃ j, j < s.size ∧ (byt s j < 33 ∨ 126 < byt s j)
def sp : ByteArray := ⟨#[32]⟩
/-- One more word: behind the last row, if it fits, else in a new one. -/
def putR (W : Int) (out : List ByteArray) (s : ByteArray) : List ByteArray :=
  if out = [] then [s] else if ((out.getD (out.length - 1) ByteArray.empty).size : Int) + 1 + (s.size : Int) ≤ W then out.set (out.length - 1) (out.getD (out.length - 1) ByteArray.empty ++ (sp ++ s)) else out ++ [s]
def rowsTo (W : Int) (X : Nat → ByteArray) : Nat → List ByteArray
  | 0 => []
  | i + 1 => putR W (rowsTo W X i) (X i)
theorem put_len (W : Int) (out : List ByteArray) (s : ByteArray) : (putR W out s).length ≤ out.length + 1 ∧ 0 < (putR W out s).length := by
  unfold putR
  by_cases h : out = []
  · rw [if_pos h]; simp
  · have : 0 < out.length := List.length_pos_iff.2 h
    rw [if_neg h]
    split
    · rw [List.length_set]; omega
    · rw [List.length_append]; simp
theorem rows_len (W : Int) (X : Nat → ByteArray) : ∀ i, (rowsTo W X i).length ≤ i ∧ (0 < i → 0 < (rowsTo W X i).length)
  | 0 => ⟨Nat.le_refl _, fun h => absurd h (by omega)⟩
  | i + 1 => by
    have h := put_len W (rowsTo W X i) (X i)
    have h2 := (rows_len W X i).1
    exact ⟨by show (putR W (rowsTo W X i) (X i)).length ≤ _; omega, fun _ => h.2⟩
theorem put_size {W : Int} {out : List ByteArray} {s : ByteArray} (h : ∀ x ∈ out, (x.size : Int) ≤ W) (hs : (s.size : Int) ≤ W) : ∀ x ∈ putR W out s, (x.size : Int) ≤ W := by
  intro x hx
  unfold putR at hx
  split at hx
  · rw [List.mem_singleton.1 hx]; exact hs
  · split at hx
    · rename_i hf
      rcases List.mem_or_eq_of_mem_set hx with h1 | h1
      · exact h x h1
      · rw [h1, ByteArray.size_append, ByteArray.size_append]
        have : sp.size = 1 := rfl
        omega
    · rcases List.mem_append.1 hx with h1 | h1
      · exact h x h1
      · rw [List.mem_singleton.1 h1]; exact hs
theorem rows_size {W : Int} {X : Nat → ByteArray} : ∀ i, (∀ j, j < i → ((X j).size : Int) ≤ W) → ∀ x ∈ rowsTo W X i, (x.size : Int) ≤ W
  | 0, _ => fun x hx => absurd hx (by simp [rowsTo])
  | i + 1, h => put_size (rows_size i (fun j hj => h j (by omega))) (h i (by omega))
theorem put_nil {W : Int} {R : List ByteArray} {s : ByteArray} (h : R = []) : putR W R s = R ++ [s] := by subst h; rfl
theorem put_fit {W : Int} {R : List ByteArray} {s l : ByteArray} {k : Nat} (hk : R.length = k + 1) (hl : R.getD k ByteArray.empty = l) (hf : (l.size : Int) + 1 + (s.size : Int) ≤ W) : putR W R s = R.set k (l ++ (sp ++ s)) := by
  unfold putR
  rw [if_neg (by intro h; rw [h] at hk; simp at hk), show R.length - 1 = k by omega, hl, if_pos hf]
theorem put_new {W : Int} {R : List ByteArray} {s l : ByteArray} {k : Nat} (hk : R.length = k + 1) (hl : R.getD k ByteArray.empty = l) (hf : ¬ (l.size : Int) + 1 + (s.size : Int) ≤ W) : putR W R s = R ++ [s] := by
  unfold putR
  rw [if_neg (by intro h; rw [h] at hk; simp at hk), show R.length - 1 = k by omega, hl, if_neg hf]

/-- What Rows answers. -/
inductive RowsIs (W : Int) (n : Nat) (X : Nat → ByteArray) : List ByteArray → Int → Prop where
  | range (h : W < 1 ∨ 500 < W) : RowsIs W n X [] 2
  | form (h : 1 ≤ W ∧ W ≤ 500) (hb : ∃ i, i < n ∧ badAt (X i)) : RowsIs W n X [] 7
  | big (h : 1 ≤ W ∧ W ≤ 500) (hg : ∀ i, i < n → ¬ badAt (X i)) (hb : ∃ i, i < n ∧ W < ((X i).size : Int)) : RowsIs W n X [] 5
  | ok (h : 1 ≤ W ∧ W ≤ 500) (hg : ∀ i, i < n → ¬ badAt (X i)) (hs : ∀ i, i < n → ((X i).size : Int) ≤ W) : RowsIs W n X (rowsTo W X n) 0
theorem RowsIs.uniq {W : Int} {n : Nat} {X : Nat → ByteArray} {R R' : List ByteArray} {e e' : Int} (h : RowsIs W n X R e) (h' : RowsIs W n X R' e') : R = R' ∧ e = e' := by
  cases h with
  | range h => cases h' with
    | range h' => exact ⟨rfl, rfl⟩
    | form h' _ => omega
    | big h' _ _ => omega
    | ok h' _ _ => omega
  | form h hb => cases h' with
    | range h' => omega
    | form h' _ => exact ⟨rfl, rfl⟩
    | big h' hg _ => obtain ⟨i, hi, hx⟩ := hb; exact absurd hx (hg i hi)
    | ok h' hg _ => obtain ⟨i, hi, hx⟩ := hb; exact absurd hx (hg i hi)
  | big h hg hb => cases h' with
    | range h' => omega
    | form h' hb' => obtain ⟨i, hi, hx⟩ := hb'; exact absurd hx (hg i hi)
    | big h' _ _ => exact ⟨rfl, rfl⟩
    | ok h' _ hs => obtain ⟨i, hi, hx⟩ := hb; have := hs i hi; omega
  | ok h hg hs => cases h' with
    | range h' => omega
    | form h' hb' => obtain ⟨i, hi, hx⟩ := hb'; exact absurd hx (hg i hi)
    | big h' _ hb' => obtain ⟨i, hi, hx⟩ := hb'; have := hs i hi; omega
    | ok h' _ _ => exact ⟨rfl, rfl⟩
def sc (L : List ByteArray) : List Value := L.map Value.string
theorem sc_append (a b : List ByteArray) : sc (a ++ b) = sc a ++ sc b := by unfold sc; rw [List.map_append]
theorem sc_set (L : List ByteArray) (k : Nat) (x : ByteArray) : (sc L).set k (.string x) = sc (L.set k x) := by unfold sc; rw [List.map_set]
theorem sc_at {L : List ByteArray} {k : Nat} (h : k < L.length) : (sc L)[k]? = some (.string (L.getD k ByteArray.empty)) := by
  unfold sc; simp [List.getD, h]
/-- A row that is owned, as a slice of strings. -/
theorem str_of_own {w : World} {base g cap : Nat} {t : TypeId} {L : List ByteArray} (h : w.ownsRow base t 1 (.slice (some ⟨g, 0, none⟩) L.length cap) L.length (sc L)) : StrAt w g 0 L.length (fun k => L.getD k ByteArray.empty) := by
  refine ⟨(h.lt g rfl).2, fun k hk => ?_⟩
  rw [Nat.zero_add, h.cellAt k (by omega), sc_at hk]
/-- What a call of Rows leaves. -/
def RowsPost (w : World) (W : Int) (n : Nat) (X : Nat → ByteArray) (e : Ending) (w' : World) : Prop := ∃ (R : List ByteArray) (err : Int) (A : Option Addr) (cap N : Nat), N = R.length ∧ RowsIs W n X R err ∧
  e = .returned (.tuple #[.slice A N cap, .int .i64 err]) ∧ StrIn w' A N (fun k => R.getD k ByteArray.empty) ∧ Below w.heap.size w w' ∧ N ≤ cap
theorem rows_nil {w w' : World} {W : Int} {n : Nat} {X : Nat → ByteArray} {err : Int} (h : RowsIs W n X [] err) (hb : Below w.heap.size w w') : RowsPost w W n X (.returned (.tuple #[.slice none 0 0, .int .i64 err])) w' :=
  ⟨[], err, none, 0, 0, rfl, h, rfl, ⟨by omega, .inl rfl⟩, hb, Nat.le_refl _⟩
end Go.Proofs.YtghefgifhebniaaGreatDoor

namespace Go.Proofs.YtghefgifhebniaaGreatDoor
open Go.RowKit
set_option linter.unusedVariables false
set_option linter.unusedSimpArgs false

theorem infoS : (Tryz.prog.info? 9).map (fun i => (i.zero, i.size, i.bytes)) = some (some (.string ByteArray.empty), 1, 16) := by kernel_rfl
theorem h63_s {n : Nat} (h : n ≤ 300) : n + 1 ≤ maxLen := by simp only [maxLen]; omega
theorem hby_s {n : Nat} (h : n ≤ 300) : (n + 1) * 16 ≤ 140737488355328 := by omega
/-- What the loops keep: the cell of the width, and the frame. -/
def WMem (w wr : World) (g : Nat) (W : Int) : Prop := Blk wr g 3 #[.int .i64 W] ∧ Below w.heap.size w wr
theorem WMem.call {w wr w' : World} {g : Nat} {W : Int} (h : WMem w wr g W) (hb : Below wr.heap.size wr w') : WMem w w' g W := ⟨h.1.call hb, below_step h.2 hb⟩
/-- The rows that are owned. -/
def RMem (w wr : World) (u : Value) (N : Nat) (R : List ByteArray) : Prop := wr.ownsRow w.heap.size 9 1 u N (sc R) ∧ Below w.heap.size w wr
theorem RMem.call {w wr w' : World} {u : Value} {N : Nat} {R : List ByteArray} (h : RMem w wr u N R) (hb : Below wr.heap.size wr w') : RMem w w' u N R := ⟨own_below h.1 hb, below_step h.2 hb⟩
theorem RMem.app {w wr w' : World} {u v : Value} {N : Nat} {R : List ByteArray} {x : ByteArray} (h : RMem w wr u N R) {cs : Array Value} (hown : w'.ownsRow w.heap.size 9 1 v (N + 1) (sc R ++ [.string x])) (hg : (wr.alloc (.cells cs 9)).grownBy w' u.ownBlock) : RMem w w' v (N + 1) (R ++ [x]) :=
  ⟨by rw [sc_append]; exact hown, below_own (h.1.alloc _) (h.2.alloc h.2.size _) hg⟩
theorem RMem.set {w wr : World} {g cap N k : Nat} {R : List ByteArray} {x : ByteArray} (h : RMem w wr (.slice (some ⟨g, 0, none⟩) N cap) N R) : RMem w (wr.setCell ⟨g, k, none⟩ (.string x)) (.slice (some ⟨g, 0, none⟩) N cap) N (R.set k x) := by
  refine ⟨?_, h.2.setCell (p := ⟨g, k, none⟩) (h.1.lt g rfl).1 _⟩
  have := (h.1.stored k (.string x)).1
  rw [sc_set] at this
  exact this
theorem RMem.post {w w1 wr : World} {W : Int} {n : Nat} {X : Nat → ByteArray} {u : Value} {R : List ByteArray} {N : Nat} (h : RMem w1 wr u N R) (hw : Below w.heap.size w w1) (hN : N = R.length) (h300 : N ≤ 300) (hR : RowsIs W n X R 0) : RowsPost w W n X (.returned (.tuple #[u, .int .i64 0])) wr := by
  rcases h.1.2 with ⟨hv, h0⟩ | ⟨g, cap, cur, hv, _, _, hnc, _⟩
  · exact ⟨R, 0, none, 0, N, hN, hR, by rw [hv, h0], ⟨by omega, .inl h0⟩, below_step hw h.2, by omega⟩
  · have hown := h.1
    rw [hv, hN] at hown
    exact ⟨R, 0, some ⟨g, 0, none⟩, cap, N, hN, hR, by rw [hv], ⟨by omega, .inr ⟨g, 0, rfl, by rw [hN]; exact str_of_own hown⟩⟩, below_step hw h.2, hnc⟩
theorem RMem.form {w wr : World} {u : Value} {N : Nat} {R : List ByteArray} (h : RMem w wr u N R) : ∃ A cap, u = .slice A N cap := by
  rcases h.1.2 with ⟨hv, h0⟩ | ⟨g, cap, cur, hv, _⟩
  · exact ⟨none, 0, by rw [hv, h0]⟩
  · exact ⟨_, cap, hv⟩
theorem bytes_cell (w : World) (s : ByteArray) : ∀ k, k < s.size → (Lib.bytesWorld w 5 s).cell? ⟨w.heap.size, 0 + k, none⟩ = some (.int .u8 (byt s k : Int)) := fun k hk => by
  rw [Nat.zero_add]
  exact Lib.bytesWorld_cell w _ s k hk
theorem empty_of {s : ByteArray} (h : s.size = 0) : s = ⟨#[]⟩ := list_of (List.eq_nil_of_length_eq_zero (by rw [← size_list]; exact h))
theorem not_empty {s : ByteArray} (h : s.size ≠ 0) : ¬ s.toList = [] := fun e => h (by rw [ByteArray.toList_eq] at e; rw [size_list, e]; rfl)
theorem badAt_iff (s : ByteArray) (hs : s.size ≠ 0) : badAt s ↔ ∃ j, j < s.size ∧ decide (byt s j < 33 ∨ 126 < byt s j) = true := by
  constructor
  · rintro (h | ⟨j, hj, h⟩)
    · exact absurd h hs
    · exact ⟨j, hj, decide_eq_true h⟩
  · rintro ⟨j, hj, h⟩
    exact .inr ⟨j, hj, of_decide_eq_true h⟩
end Go.Proofs.YtghefgifhebniaaGreatDoor

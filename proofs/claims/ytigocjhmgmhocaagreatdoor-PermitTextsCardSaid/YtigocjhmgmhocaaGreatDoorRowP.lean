/- Rows of words: what both sides make. No program stands here but in the import. -/
import Derived.Test.YtigocjhmgmhocaaGreatDoorStrs
import Derived.Test.YtigocjhmgmhocaaGreatDoorFmt
namespace Go.Proofs.YtigocjhmgmhocaaGreatDoor
open Go.RowKit
set_option linter.unusedVariables false
set_option linter.unusedSimpArgs false

def byt (s : ByteArray) (k : Nat) : Nat := (s.data.toList.getD k 0).toNat
theorem byt_at (s : ByteArray) (k : Nat) (h : k < s.size) : (s[k]'h).toNat = byt s k := by
  unfold byt
  have hl : k < s.data.toList.length := by rw [← size_list]; exact h
  rw [List.getD_eq_getElem?_getD, List.getElem?_eq_getElem hl]
  rfl
theorem byt_lt (s : ByteArray) (k : Nat) : byt s k < 256 := (s.data.toList.getD k 0).toNat_lt
def badAt (s : ByteArray) : Prop := s.size = 0 ∨ ∃ j, j < s.size ∧ (byt s j < 33 ∨ 126 < byt s j)
def sp : ByteArray := ⟨#[32]⟩
/-- One more word: behind the last row, if it fits, else in a new one. -/
def putR (W : Int) (out : List ByteArray) (s : ByteArray) : List ByteArray :=
  if out = [] then [s] else if ((out.getD (out.length - 1) ByteArray.empty).size : Int) + 1 + (s.size : Int) ≤ W then out.set (out.length - 1) (out.getD (out.length - 1) ByteArray.empty ++ (sp ++ s)) else out ++ [s]
def rowsTo (W : Int) (X : Nat → ByteArray) : Nat → List ByteArray
  | 0 => []
  | i + 1 => putR W (rowsTo W X i) (X i)
theorem put_len (W : Int) (out : List ByteArray) (s : ByteArray) : (putR W out s).length ≤ out.length + 1 ∧ 0 < (putR W out s).length := by
  unfold putR
  by_cases h : out = []
  · rw [if_pos h]; simp
  · have : 0 < out.length := List.length_pos_iff.2 h
    rw [if_neg h]
    split
    · rw [List.length_set]; omega
    · rw [List.length_append]; simp
theorem rows_len (W : Int) (X : Nat → ByteArray) : ∀ i, (rowsTo W X i).length ≤ i ∧ (0 < i → 0 < (rowsTo W X i).length)
  | 0 => ⟨Nat.le_refl _, fun h => absurd h (by omega)⟩
  | i + 1 => by
    have h := put_len W (rowsTo W X i) (X i)
    have h2 := (rows_len W X i).1
    exact ⟨by show (putR W (rowsTo W X i) (X i)).length ≤ _; omega, fun _ => h.2⟩
theorem put_size {W : Int} {out : List ByteArray} {s : ByteArray} (h : ∀ x ∈ out, (x.size : Int) ≤ W) (hs : (s.size : Int) ≤ W) : ∀ x ∈ putR W out s, (x.size : Int) ≤ W := by
  intro x hx
  unfold putR at hx
  split at hx
  · rw [List.mem_singleton.1 hx]; exact hs
  · split at hx
    · rename_i hf
      rcases List.mem_or_eq_of_mem_set hx with h1 | h1
      · exact h x h1
      · rw [h1, ByteArray.size_append, ByteArray.size_append]
        have : sp.size = 1 := rfl
        omega
    · rcases List.mem_append.1 hx with h1 | h1
      · exact h x h1
      · rw [List.mem_singleton.1 h1]; exact hs
theorem rows_size {W : Int} {X : Nat → ByteArray} : ∀ i, (∀ j, j < i → ((X j).size : Int) ≤ W) → ∀ x ∈ rowsTo W X i, (x.size : Int) ≤ W
  | 0, _ => fun x hx => absurd hx (by simp [rowsTo])
  | i + 1, h => put_size (rows_size i (fun j hj => h j (by omega))) (h i (by omega))
theorem put_nil {W : Int} {R : List ByteArray} {s : ByteArray} (h : R = []) : putR W R s = R ++ [s] := by subst h; rfl
theorem put_fit {W : Int} {R : List ByteArray} {s l : ByteArray} {k : Nat} (hk : R.length = k + 1) (hl : R.getD k ByteArray.empty = l) (hf : (l.size : Int) + 1 + (s.size : Int) ≤ W) : putR W R s = R.set k (l ++ (sp ++ s)) := by
  unfold putR
  rw [if_neg (by intro h; rw [h] at hk; simp at hk), show R.length - 1 = k by omega, hl, if_pos hf]
theorem put_new {W : Int} {R : List ByteArray} {s l : ByteArray} {k : Nat} (hk : R.length = k + 1) (hl : R.getD k ByteArray.empty = l) (hf : ¬ (l.size : Int) + 1 + (s.size : Int) ≤ W) : putR W R s = R ++ [s] := by
  unfold putR
  rw [if_neg (by intro h; rw [h] at hk; simp at hk), show R.length - 1 = k by omega, hl, if_neg hf]

/-- What Rows answers. -/
inductive RowsIs (W : Int) (n : Nat) (X : Nat → ByteArray) : List ByteArray → Int → Prop where
  | range (h : W < 1 ∨ 500 < W) : RowsIs W n X [] 2
  | form (h : 1 ≤ W ∧ W ≤ 500) (hb : ∃ i, i < n ∧ badAt (X i)) : RowsIs W n X [] 7
  | big (h : 1 ≤ W ∧ W ≤ 500) (hg : ∀ i, i < n → ¬ badAt (X i)) (hb : ∃ i, i < n ∧ W < ((X i).size : Int)) : RowsIs W n X [] 5
  | ok (h : 1 ≤ W ∧ W ≤ 500) (hg : ∀ i, i < n → ¬ badAt (X i)) (hs : ∀ i, i < n → ((X i).size : Int) ≤ W) : RowsIs W n X (rowsTo W X n) 0
theorem RowsIs.uniq {W : Int} {n : Nat} {X : Nat → ByteArray} {R R' : List ByteArray} {e e' : Int} (h : RowsIs W n X R e) (h' : RowsIs W n X R' e') : R = R' ∧ e = e' := by
  cases h with
  | range h => cases h' with
    | range h' => exact ⟨rfl, rfl⟩
    | form h' _ => omega
    | big h' _ _ => omega
    | ok h' _ _ => omega
  | form h hb => cases h' with
    | range h' => omega
    | form h' _ => exact ⟨rfl, rfl⟩
    | big h' hg _ => obtain ⟨i, hi, hx⟩ := hb; exact absurd hx (hg i hi)
    | ok h' hg _ => obtain ⟨i, hi, hx⟩ := hb; exact absurd hx (hg i hi)
  | big h hg hb => cases h' with
    | range h' => omega
    | form h' hb' => obtain ⟨i, hi, hx⟩ := hb'; exact absurd hx (hg i hi)
    | big h' _ _ => exact ⟨rfl, rfl⟩
    | ok h' _ hs => obtain ⟨i, hi, hx⟩ := hb; have := hs i hi; omega
  | ok h hg hs => cases h' with
    | range h' => omega
    | form h' hb' => obtain ⟨i, hi, hx⟩ := hb'; exact absurd hx (hg i hi)
    | big h' _ hb' => obtain ⟨i, hi, hx⟩ := hb'; have := hs i hi; omega
    | ok h' _ _ => exact ⟨rfl, rfl⟩
def sc (L : List ByteArray) : List Value := L.map Value.string
theorem sc_append (a b : List ByteArray) : sc (a ++ b) = sc a ++ sc b := by unfold sc; rw [List.map_append]
theorem sc_set (L : List ByteArray) (k : Nat) (x : ByteArray) : (sc L).set k (.string x) = sc (L.set k x) := by unfold sc; rw [List.map_set]
theorem sc_at {L : List ByteArray} {k : Nat} (h : k < L.length) : (sc L)[k]? = some (.string (L.getD k ByteArray.empty)) := by
  unfold sc; simp [List.getD, h]
/-- A row that is owned, as a slice of strings. -/
theorem str_of_own {w : World} {base g cap : Nat} {t : TypeId} {L : List ByteArray} (h : w.ownsRow base t 1 (.slice (some ⟨g, 0, none⟩) L.length cap) L.length (sc L)) : StrAt w g 0 L.length (fun k => L.getD k ByteArray.empty) := by
  refine ⟨(h.lt g rfl).2, fun k hk => ?_⟩
  rw [Nat.zero_add, h.cellAt k (by omega), sc_at hk]
/-- What a call of Rows leaves. -/
def RowsPost (w : World) (W : Int) (n : Nat) (X : Nat → ByteArray) (e : Ending) (w' : World) : Prop := ∃ (R : List ByteArray) (err : Int) (A : Option Addr) (cap N : Nat), N = R.length ∧ RowsIs W n X R err ∧
  e = .returned (.tuple #[.slice A N cap, .int .i64 err]) ∧ StrIn w' A N (fun k => R.getD k ByteArray.empty) ∧ Below w.heap.size w w' ∧ N ≤ cap
theorem rows_nil {w w' : World} {W : Int} {n : Nat} {X : Nat → ByteArray} {err : Int} (h : RowsIs W n X [] err) (hb : Below w.heap.size w w') : RowsPost w W n X (.returned (.tuple #[.slice none 0 0, .int .i64 err])) w' :=
  ⟨[], err, none, 0, 0, rfl, h, rfl, ⟨by omega, .inl rfl⟩, hb, Nat.le_refl _⟩
end Go.Proofs.YtigocjhmgmhocaaGreatDoor

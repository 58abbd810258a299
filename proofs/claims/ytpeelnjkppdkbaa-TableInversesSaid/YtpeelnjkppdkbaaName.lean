/- Names: how many bytes of a word a string begins with, and whether it is a name, by the package and by the reference. -/
import Derived.Test.YtpeelnjkppdkbaaLeaf
import Derived.Lib.Strings
import Derived.LoopTactic
namespace Go.Proofs.Ytpeelnjkppdkbaa
open Go.RowKit
set_option linter.unusedVariables false
set_option linter.unusedSimpArgs false

def wchB (c : Int) : Bool := letB c || digB c || c == 95
def wlen (l : List UInt8) : Nat := (l.takeWhile fun c => wchB (c.toNat : Int)).length
theorem takeWhile_len (p : UInt8 → Bool) : ∀ (l : List UInt8) (k : Nat), k ≤ l.length → (∀ j, j < k → p (l.getD j 0) = true) → (k < l.length → p (l.getD k 0) = false) → (l.takeWhile p).length = k := by
  intro l
  induction l with
  | nil => intro k hk _ _; simp at hk; subst hk; rfl
  | cons a l ih =>
    intro k hk h1 h2
    cases k with
    | zero => have h := h2 (by simp); simp at h; simp [List.takeWhile_cons, h]
    | succ k =>
      have h := h1 0 (by omega)
      simp at h
      simp [List.takeWhile_cons, h]
      refine ih k (by simpa using hk) (fun j hj => ?_) (fun hk' => ?_)
      · simpa using h1 (j + 1) (by omega)
      · simpa using h2 (by simpa using hk')
theorem getD_byte (s : ByteArray) (k : Nat) (h : k < s.size) : s.data.toList.getD k 0 = s[k] := by
  have : k < s.data.toList.length := by simpa using h
  simp [List.getD, h]; rfl
def Upto (s : ByteArray) (k : Nat) : Prop := ∀ j, j < k → wchB ((s.data.toList.getD j 0).toNat : Int) = true
theorem upto_step {s : ByteArray} {k : Nat} (h : Upto s k) (hk : k < s.size) (hc : wchB (s[k].toNat : Int) = true) : Upto s (k + 1) := fun j hj => by
  rcases Nat.lt_succ_iff_lt_or_eq.1 hj with h1 | rfl
  · exact h j h1
  · rw [getD_byte s j hk]; exact hc
theorem wlen_of {s : ByteArray} {k : Nat} (hk : k ≤ s.size) (h : Upto s k) (hc : ∀ h : k < s.size, wchB (s[k].toNat : Int) = false) : wlen s.data.toList = k :=
  takeWhile_len _ _ k (by simpa using hk) h (fun h' => by have h2 : k < s.size := by simpa using h'
                                                          rw [getD_byte s k h2]; exact hc h2)

def nameB (l : List UInt8) : Bool := decide (0 < l.length) && decide (l.length ≤ 20) && letB ((l.getD 0 0).toNat : Int) && decide (wlen l = l.length)
theorem size_data (s : ByteArray) : s.data.toList.length = s.size := rfl
end Go.Proofs.Ytpeelnjkppdkbaa

/- The reference's decimal text of a number. -/
import Derived.Test.YthbdeaglncoanaaGreatDoorBase
import Derived.Test.YthbdeaglncoanaaGreatDoorNumeral
import Derived.Laws.BytesString
import Derived.Laws.IdiomStrings
namespace Go.Proofs.YthbdeaglncoanaaGreatDoor
open Go.RowKit
set_option linter.unusedVariables false
set_option linter.unusedSimpArgs false

theorem size_list (o : ByteArray) : o.size = o.data.toList.length := (Array.length_toList (xs := o.data)).symm
def DInv (u N : Nat) (o : ByteArray) : Prop := (o.data.toList = [] ∧ N = u) ∨ (0 < N ∧ 0 < o.size ∧ Lib.decDigits u = Lib.decDigits N ++ o.data.toList) ∨ (N = 0 ∧ 0 < o.size ∧ o.data.toList = Lib.decDigits u)
theorem DInv.size {u N : Nat} {o : ByteArray} (h : DInv u N o) (hu : u < 9223372036854775808) : o.size ≤ 30 := by
  have h19 : (Lib.decDigits u).length ≤ 19 := by
    rw [Lib.decDigits_length]
    exact nDigits_le 19 u (by decide) (Nat.lt_of_lt_of_le hu (by decide))
  have e := size_list o
  rcases h with ⟨h, _⟩ | ⟨_, _, h⟩ | ⟨_, _, h⟩
  · rw [e, h]; simp
  · rw [h, List.length_append] at h19; omega
  · rw [e, h]; omega
theorem DInv.step {u N : Nat} {o b : ByteArray} (h : DInv u N o) (hN : 0 < N ∨ o.size = 0) (hb : b.data.toList = [UInt8.ofNat (48 + N % 10)]) : DInv u (N / 10) (b ++ o) := by
  have es : (b ++ o).data.toList = UInt8.ofNat (48 + N % 10) :: o.data.toList := by rw [ByteArray.data_append]; simp [hb]
  have e1 : 0 < (b ++ o).size := by
    rw [size_list, es]; simp
  have key : Lib.decDigits u = Lib.decDigits N ++ o.data.toList := by
    rcases h with ⟨h, rfl⟩ | ⟨_, _, h⟩ | ⟨h0, h1, _⟩
    · rw [h, List.append_nil]
    · exact h
    · omega
  by_cases h10 : N < 10
  · refine .inr (.inr ⟨by omega, e1, ?_⟩)
    rw [es, key, Lib.decDigits_one h10, Nat.mod_eq_of_lt h10]
    rfl
  · refine .inr (.inl ⟨by omega, e1, ?_⟩)
    rw [es, key]
    conv => lhs; rw [Lib.decDigits, dif_neg h10]
    simp
theorem DInv.done {u : Nat} {o : ByteArray} (h : DInv u 0 o) (ho : 0 < o.size) : o.data.toList = Lib.decDigits u := by
  rcases h with ⟨h, _⟩ | ⟨h, _⟩ | ⟨_, _, h⟩
  · have := size_list o
    rw [h] at this; simp only [List.length_nil] at this; omega
  · omega
  · exact h
theorem list_of {o : ByteArray} {t : List UInt8} (h : o.data.toList = t) : o = ⟨t.toArray⟩ := by subst h; obtain ⟨⟨l⟩⟩ := o; rfl
end Go.Proofs.YthbdeaglncoanaaGreatDoor

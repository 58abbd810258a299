/- strings.Split at a space. -/
import Derived.Test.YthbdeaglncoanaaGreatDoorSeq
import Derived.Test.YthbdeaglncoanaaGreatDoorStrs
import Derived.Test.YthbdeaglncoanaaGreatDoorShelfSp
import Derived.Lib.IndexBytes
import Derived.Lib.SplitLaws
import Derived.Shelf.Strings.SplitCore
namespace Go.Proofs.YthbdeaglncoanaaGreatDoor
open Go.RowKit Go.Shelf
set_option linter.unusedVariables false
set_option linter.unusedSimpArgs false

theorem size_lst (s : ByteArray) : s.size = s.data.toList.length := rfl
theorem indexB_32 (s : ByteArray) : Lib.indexB s ⟨#[32]⟩ = Lib.indexByte s.data.toList 32 := Lib.one s ⟨#[32]⟩ rfl
theorem count_cons (l : List UInt8) (a : List UInt8) : Lib.countByte (a ++ 32 :: l) 32 = Lib.countByte a 32 + 1 + Lib.countByte l 32 := by
  unfold Lib.countByte
  rw [List.count_append, List.count_cons]
  simp; omega
theorem splitB_words : ∀ (N : Nat) (s : ByteArray), Lib.countByte s.data.toList 32 ≤ N → Lib.splitB ⟨#[32]⟩ 0 N s = words s := by
  intro N
  induction N with
  | zero =>
    intro s h
    rw [Lib.splitB_zero]
    rcases index_split s.data.toList 32 with ⟨h1, e⟩ | ⟨a, b, e1, e2, e3⟩
    · unfold words; rw [wds_plain h1]; simp [bytes_of]
    · rw [e1, count_cons] at h; omega
  | succ N ih =>
    intro s h
    rcases index_split s.data.toList 32 with ⟨h1, e⟩ | ⟨a, b, e1, e2, e3⟩
    · rw [Lib.splitB_miss _ _ _ _ ((indexB_32 s).trans e)]
      unfold words; rw [wds_plain h1]; simp [bytes_of]
    · rcases words_cases s with ⟨h1, _⟩ | ⟨k, hk, hks, hw⟩
      · omega
      · have hka : k = a.length := by omega
        rw [hw]
        unfold Lib.splitB
        rw [indexB_32, hk]
        have : ((k : Int) == -1) = false := by simp <;> omega
        rw [this]
        simp only [Bool.false_eq_true, if_false]
        have hsz : s.size = a.length + 1 + b.length := by rw [size_lst, e1, List.length_append, List.length_cons]; omega
        have eb : (s.extract (k + 1) s.size).data.toList = b := by
          rw [ByteArray.data_extract, Array.toList_extract, e1, hka]
          simp [hsz]
        have hc : Lib.countByte (s.extract (k + 1) s.size).data.toList 32 ≤ N := by
          rw [e1, count_cons] at h
          rw [eb]; omega
        rw [show ((k : Int)).toNat = k from by omega, show (⟨#[32]⟩ : ByteArray).size = 1 from rfl, ih _ hc]
        rfl
theorem countB_32 (s : ByteArray) : Lib.countB s ⟨#[32]⟩ = Lib.countByte s.data.toList 32 := by
  show Lib.count s.data.toList [32] = _
  rw [Lib.count_one]
  rfl
theorem wds_count (l : List UInt8) : (wds l).length = Lib.countByte l 32 + 1 := by
  unfold Lib.countByte
  induction l with
  | nil => rfl
  | cons c r ih =>
    by_cases h : c = 32
    · subst h
      simp only [wds, if_true, List.length_cons, ih, List.count_cons_self]
    · simp only [wds, if_neg h, List.count_cons_of_ne h]
      cases e : wds r with
      | nil => exact absurd e (wds_ne r)
      | cons a t => rw [e] at ih; simpa using ih
theorem words_cnt (s : ByteArray) : (words s).length = Lib.countByte s.data.toList 32 + 1 := by
  unfold words
  rw [List.length_map]
  exact wds_count _
set_option maxRecDepth 100000 in
set_option maxHeartbeats 1000000 in
theorem tsplitw (s : ByteArray) (hs : s.size ≤ 300000) (w : World) : Calls Tryz.prog 50 #[.string s, .string ⟨#[32]⟩] w fun e w' =>
    e = .returned (.slice (some ⟨w.heap.size, 0, none⟩) (words s).length (words s).length) ∧ StrAt w' w.heap.size 0 (words s).length (fun k => (words s).getD k ByteArray.empty) ∧ Below w.heap.size w w' := by
  obtain ⟨N, hN⟩ : ∃ N, N = Lib.countByte s.data.toList 32 + 1 := ⟨_, rfl⟩
  have hle : Lib.countByte s.data.toList 32 ≤ s.size := by rw [size_lst]; exact List.count_le_length
  have hw : (words s).length = N := by rw [words_cnt, hN]
  have S := fun w => Any.strings_genSplit_core Tryz.lays221 (by kernel_rfl) s ⟨#[32]⟩ 0 (-1) N w (by omega) (by decide) (Nat.zero_le _)
    (fun x c hx => (Tryz.strings_Index_one x 32 _).mono fun e w' ⟨h1, h2⟩ => ⟨by rw [h1, indexB_32], h2⟩)
    ((Any.strings_Count_one Tryz.lays138 s 32 w).mono fun e w' ⟨h1, h2⟩ => ⟨by rw [h1, countB_32], h2⟩) (by decide) (by decide) (by rw [if_pos (by decide), countB_32]; omega)
  rw [splitB_words (N - 1) s (by omega), hw] at S
  have S : Hid (∀ w : World, Calls Tryz.prog 68 #[.string s, .string ⟨#[32]⟩, .int .i64 0, .int .i64 (-1)] w fun e w' => e = .returned (.slice (some ⟨w.heap.size, 0, none⟩) N N) ∧ w' = w.alloc (.cells (Lib.cellsOf (words s) N) 9)) := S
  have hcells : Lib.cellsOf (words s) N = ((words s).map Value.string).toArray := by
    unfold Lib.cellsOf
    rw [hw, Nat.sub_self]
    simp
  have HF : Hid (∀ w : World, StrAt (w.alloc (.cells (Lib.cellsOf (words s) N) 9)) w.heap.size 0 N (fun k => (words s).getD k ByteArray.empty)) := fun w => by
    rw [hcells]
    refine ⟨by simp, fun k hk => ?_⟩
    have := (Blk.new w 9 ((words s).map Value.string).toArray).cell k
    rw [Nat.zero_add, this]
    have hk' : k < (words s).length := by omega
    simp [List.getD, hk']
  rw [hw]
  clear hle hN hs hw hcells
  go_enter Tryz.func50, Tryz.ntmps50
  go_wp2_with (first | (go_at_call 68; (with_reducible refine (S.out _).mono ?_); rintro e w' ⟨rfl, rfl⟩))
  go_ret
  exact ⟨rfl, HF.out _, (Below.refl _ _).alloc (Nat.le_refl _) _⟩
end Go.Proofs.YthbdeaglncoanaaGreatDoor

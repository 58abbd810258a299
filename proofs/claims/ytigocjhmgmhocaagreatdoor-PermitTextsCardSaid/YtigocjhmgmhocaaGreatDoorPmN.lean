/- The words of a line, and its numbers: strings.Split at a space, permit.number. -/
import Derived.Test.YtigocjhmgmhocaaGreatDoorLns
import Derived.Test.YtigocjhmgmhocaaGreatDoorStrs
import Derived.Test.YtigocjhmgmhocaaGreatDoorLft
import Derived.Test.YtigocjhmgmhocaaGreatDoorEnv
import Derived.Lib.IndexBytes
import Derived.Shelf.Strings.SplitCore
namespace Go.Proofs.YtigocjhmgmhocaaGreatDoor
open Go.RowKit Go.Shelf
set_option linter.unusedVariables false
set_option linter.unusedSimpArgs false

/-- The words of a text, as strings. -/
def words (s : ByteArray) : List ByteArray := (wds s.data.toList).map fun l => ⟨l.toArray⟩
theorem words_cases (s : ByteArray) : (Lib.indexByte s.data.toList 32 = -1 ∧ words s = [s]) ∨ ∃ k : Nat, Lib.indexByte s.data.toList 32 = (k : Int) ∧ k < s.size ∧ words s = s.extract 0 k :: words (s.extract (k + 1) s.size) := by
  rcases index_split s.data.toList 32 with ⟨h, e⟩ | ⟨a, b, e1, e2, e3⟩
  · exact .inl ⟨e, by unfold words; rw [wds_plain h]; simp [bytes_of]⟩
  · have hsz : s.size = a.length + 1 + b.length := by
      rw [size_lst, e1, List.length_append, List.length_cons]; omega
    refine .inr ⟨a.length, e3, by omega, ?_⟩
    have ea : s.extract 0 a.length = ⟨a.toArray⟩ := by
      apply ByteArray.ext
      rw [ByteArray.data_extract]
      apply Array.ext'
      rw [Array.toList_extract, e1]
      simp
    have eb : (s.extract (a.length + 1) s.size).data.toList = b := by
      rw [ByteArray.data_extract, Array.toList_extract, e1]
      simp [hsz]
    unfold words
    rw [eb, e1, wds_first e2, ea]
    rfl
theorem indexB_32 (s : ByteArray) : Lib.indexB s ⟨#[32]⟩ = Lib.indexByte s.data.toList 32 := Lib.one s ⟨#[32]⟩ rfl
theorem count_cons (l : List UInt8) (a : List UInt8) : Lib.countByte (a ++ 32 :: l) 32 = Lib.countByte a 32 + 1 + Lib.countByte l 32 := by
  unfold Lib.countByte
  rw [List.count_append, List.count_cons]
  simp; omega
theorem splitB_words : ∀ (N : Nat) (s : ByteArray), Lib.countByte s.data.toList 32 ≤ N → Lib.splitB ⟨#[32]⟩ 0 N s = words s := by
  intro N
  induction N with
  | zero =>
    intro s h
    rw [Lib.splitB_zero]
    rcases index_split s.data.toList 32 with ⟨h1, e⟩ | ⟨a, b, e1, e2, e3⟩
    · unfold words; rw [wds_plain h1]; simp [bytes_of]
    · rw [e1, count_cons] at h; omega
  | succ N ih =>
    intro s h
    rcases index_split s.data.toList 32 with ⟨h1, e⟩ | ⟨a, b, e1, e2, e3⟩
    · rw [Lib.splitB_miss _ _ _ _ ((indexB_32 s).trans e)]
      unfold words; rw [wds_plain h1]; simp [bytes_of]
    · rcases words_cases s with ⟨h1, _⟩ | ⟨k, hk, hks, hw⟩
      · omega
      · have hka : k = a.length := by omega
        rw [hw]
        unfold Lib.splitB
        rw [indexB_32, hk]
        have : ((k : Int) == -1) = false := by simp <;> omega
        rw [this]
        simp only [Bool.false_eq_true, if_false]
        have hsz : s.size = a.length + 1 + b.length := by rw [size_lst, e1, List.length_append, List.length_cons]; omega
        have eb : (s.extract (k + 1) s.size).data.toList = b := by
          rw [ByteArray.data_extract, Array.toList_extract, e1, hka]
          simp [hsz]
        have hc : Lib.countByte (s.extract (k + 1) s.size).data.toList 32 ≤ N := by
          rw [e1, count_cons] at h
          rw [eb]; omega
        rw [show ((k : Int)).toNat = k from by omega, show (⟨#[32]⟩ : ByteArray).size = 1 from rfl, ih _ hc]
        rfl
theorem countB_32 (s : ByteArray) : Lib.countB s ⟨#[32]⟩ = Lib.countByte s.data.toList 32 := by
  show Lib.count s.data.toList [32] = _
  rw [Lib.count_one]
  rfl
theorem wds_count (l : List UInt8) : (wds l).length = Lib.countByte l 32 + 1 := by
  unfold Lib.countByte
  induction l with
  | nil => rfl
  | cons c r ih =>
    by_cases h : c = 32
    · subst h
      simp only [wds, if_true, List.length_cons, ih, List.count_cons_self]
    · simp only [wds, if_neg h, List.count_cons_of_ne h]
      cases e : wds r with
      | nil => exact absurd e (wds_ne r)
      | cons a t => rw [e] at ih; simpa using ih
theorem words_len (s : ByteArray) : (words s).length = Lib.countByte s.data.toList 32 + 1 := by
  unfold words
  rw [List.length_map]
  exact wds_count _
set_option maxRecDepth 100000 in
set_option maxHeartbeats 1000000 in
theorem tsplitw (s : ByteArray) (hs : s.size ≤ 100000) (w : World) : Calls Tryz.prog 48 #[.string s, .string ⟨#[32]⟩] w fun e w' =>
    e = .returned (.slice (some ⟨w.heap.size, 0, none⟩) (words s).length (words s).length) ∧ StrAt w' w.heap.size 0 (words s).length (fun k => (words s).getD k ByteArray.empty) ∧ Below w.heap.size w w' := by
  obtain ⟨N, hN⟩ : ∃ N, N = Lib.countByte s.data.toList 32 + 1 := ⟨_, rfl⟩
  have hle : Lib.countByte s.data.toList 32 ≤ s.size := by rw [size_lst]; exact List.count_le_length
  have hw : (words s).length = N := by rw [words_len, hN]
  have S := fun w => Any.strings_genSplit_core Tryz.lays221 (by kernel_rfl) s ⟨#[32]⟩ 0 (-1) N w (by omega) (by decide) (Nat.zero_le _)
    (fun x c hx => (Tryz.strings_Index_one x 32 _).mono fun e w' ⟨h1, h2⟩ => ⟨by rw [h1, indexB_32], h2⟩)
    ((Tryz.strings_Count_one s 32 w).mono fun e w' ⟨h1, h2⟩ => ⟨by rw [h1, countB_32], h2⟩) (by decide) (by decide) (by rw [if_pos (by decide), countB_32]; omega)
  rw [splitB_words (N - 1) s (by omega), hw] at S
  have S : Hid (∀ w : World, Calls Tryz.prog 65 #[.string s, .string ⟨#[32]⟩, .int .i64 0, .int .i64 (-1)] w fun e w' => e = .returned (.slice (some ⟨w.heap.size, 0, none⟩) N N) ∧ w' = w.alloc (.cells (Lib.cellsOf (words s) N) 9)) := S
  have hcells : Lib.cellsOf (words s) N = ((words s).map Value.string).toArray := by
    unfold Lib.cellsOf
    rw [hw, Nat.sub_self]
    simp
  have HF : Hid (∀ w : World, StrAt (w.alloc (.cells (Lib.cellsOf (words s) N) 9)) w.heap.size 0 N (fun k => (words s).getD k ByteArray.empty)) := fun w => by
    rw [hcells]
    refine ⟨by simp, fun k hk => ?_⟩
    have := (Blk.new w 9 ((words s).map Value.string).toArray).cell k
    rw [Nat.zero_add, this]
    have hk' : k < (words s).length := by omega
    simp [List.getD, hk']
  rw [hw]
  clear hle hN hs hw hcells
  go_enter Tryz.func48, Tryz.ntmps48
  go_wp2_with (first | (go_at_call 65; (with_reducible refine (S.out _).mono ?_); rintro e w' ⟨rfl, rfl⟩))
  go_ret
  exact ⟨rfl, HF.out _, (Below.refl _ _).alloc (Nat.le_refl _) _⟩
/-- A numeral that is taken. -/
def NumW (s : ByteArray) (v : Int) : Prop := numP v ∧ s.data.toList = Lib.itoa v
theorem pnum_ok (s : ByteArray) (v : Int) (h : NumW s v) (w : World) (hE : Env5 w) : Calls Tryz.prog 49 #[.string s] w fun e w' => e = .returned (.tuple #[.int .i64 v, .bool true]) ∧ Below w.heap.size w w' := by
  have hn := h.1.near
  have hl := itoa_len hn
  have hl2 : s.size ≤ 18 := by
    rw [size_lst, h.2, itoa_pos' (by have := h.1.1; omega), Lib.decDigits_length]
    exact nDigits_le 18 _ (by decide) (by rw [pow18]; have := h.1; unfold numP at this; omega)
  have S1 := Lib.hid fun w => tatoi_ok s (by omega) v (by rw [h.2]; exact atoi_itoa hn.1 hn.2) w
  have s2 := fun w hE => titoa5 v (by have := hn.1; omega) (by have := hn.2; omega) w hE
  have he : (⟨(Lib.itoa v).toArray⟩ : ByteArray) = s := by rw [← h.2]
  rw [he] at s2
  have S2 := Lib.hid s2
  have HE := Lib.hid hE
  have T1 : decide ((0 : Int) ≤ v) = true := decide_eq_true h.1.1
  have T2 : decide ((s.size : Int) ≤ 18) = true := decide_eq_true (by omega)
  have T2' : decide (s.size ≤ 18) = true := decide_eq_true hl2
  clear hn hl hl2 s2 he hE h
  go_enter Tryz.func49, Tryz.ntmps49
  go_wp2_with (first
    | (go_at_call 66; (with_reducible refine (S1.out _).mono ?_); rintro e w2 ⟨rfl, hb2⟩; have HB2 := Lib.hid hb2; clear hb2)
    | (go_at_call 22; (with_reducible refine (S2.out _ (HE.out.below HB2.out)).mono ?_); rintro e w3 ⟨rfl, hb3⟩; have HB3 := Lib.hid (below_step HB2.out hb3); clear hb3))
  go_ret2
  exact ⟨by simp, HB3.out⟩
theorem pnum_no (s : ByteArray) (hs : s.size ≤ 100000) (h : ∀ v, ¬ NumW s v) : ∃ n : Int, ∀ w, Env5 w → Calls Tryz.prog 49 #[.string s] w fun e w' => e = .returned (.tuple #[.int .i64 n, .bool false]) ∧ Below w.heap.size w w' := by
  by_cases hv : ∃ v, Lib.atoiAll s.data.toList = .ok v
  · obtain ⟨v, hv⟩ := hv
    refine ⟨v, fun w hE => ?_⟩
    have bv := Lib.atoiAll_bounds hv
    have S1 := Lib.hid fun w => tatoi_ok s (by omega) v hv w
    have HE := Lib.hid hE
    by_cases h0 : 0 ≤ v
    case neg =>
      have T1 : decide ((0 : Int) ≤ v) = false := decide_eq_false h0
      clear h0 bv hv hE h hs
      go_enter Tryz.func49, Tryz.ntmps49
      go_wp2_with (first
        | (go_at_call 66; (with_reducible refine (S1.out _).mono ?_); rintro e w2 ⟨rfl, hb2⟩; have HB2 := Lib.hid hb2; clear hb2))
      go_ret2
      exact ⟨by simp, HB2.out⟩
    have T1 : decide ((0 : Int) ≤ v) = true := decide_eq_true h0
    by_cases hl : s.size ≤ 18
    case neg =>
      have T2 : decide ((s.size : Int) ≤ 18) = false := decide_eq_false (by omega)
      have T2' : decide (s.size ≤ 18) = false := decide_eq_false hl
      clear h0 bv hv hE h hs hl
      go_enter Tryz.func49, Tryz.ntmps49
      go_wp2_with (first
        | (go_at_call 66; (with_reducible refine (S1.out _).mono ?_); rintro e w2 ⟨rfl, hb2⟩; have HB2 := Lib.hid hb2; clear hb2))
      go_ret2
      exact ⟨by simp, HB2.out⟩
    have T2 : decide ((s.size : Int) ≤ 18) = true := decide_eq_true (by omega)
    have T2' : decide (s.size ≤ 18) = true := decide_eq_true hl
    obtain ⟨x, hx⟩ : ∃ x : ByteArray, x = ⟨(Lib.itoa v).toArray⟩ := ⟨_, rfl⟩
    have s2 := fun w hE => titoa5 v bv.1 bv.2 w hE
    rw [← hx] at s2
    have S2 := Lib.hid s2
    have hne : x ≠ s := fun e => by
      have e2 : s.data.toList = Lib.itoa v := by rw [← e, hx]
      refine h v ⟨⟨h0, ?_⟩, e2⟩
      have h18 : (Lib.decDigits v.toNat).length ≤ 18 := by
        rw [← itoa_pos' (by omega), ← e2, ← size_lst]; exact hl
      rw [Lib.decDigits_length] at h18
      have h2 := Lib.lt_pow_nDigits v.toNat
      have h3 : 10 ^ Lib.nDigits v.toNat ≤ 10 ^ 18 := Nat.pow_le_pow_right (by decide) h18
      rw [pow18] at h3
      omega
    have u1 : ¬ x.toList = s.toList := fun h => hne (bytes_ext h)
    have u2 : decide (x.toList = s.toList) = false := decide_eq_false u1
    have u3 : (x.toList == s.toList) = false := by simp [u1]
    clear h0 bv hv hE h hs hl s2 hx hne
    go_enter Tryz.func49, Tryz.ntmps49
    go_wp2_with (first
      | (go_at_call 66; (with_reducible refine (S1.out _).mono ?_); rintro e w2 ⟨rfl, hb2⟩; have HB2 := Lib.hid hb2; clear hb2)
      | (go_at_call 22; (with_reducible refine (S2.out _ (HE.out.below HB2.out)).mono ?_); rintro e w3 ⟨rfl, hb3⟩; have HB3 := Lib.hid (below_step HB2.out hb3); clear hb3))
    go_ret2
    exact ⟨by simp [*], HB3.out⟩
  · have hv' : ∀ v, Lib.atoiAll s.data.toList ≠ .ok v := fun v h => hv ⟨v, h⟩
    obtain ⟨n0, s1⟩ := tatoi_err s (by omega) hv'
    refine ⟨n0, fun w hE => ?_⟩
    have S1 := Lib.hid s1
    have HE := Lib.hid hE
    clear hv hv' s1 hE h hs
    go_enter Tryz.func49, Tryz.ntmps49
    go_wp2_with (first
      | (go_at_call 66; (with_reducible refine (S1.out _ HE.out).mono ?_); rintro e w2 ⟨N2, rfl, hb2⟩; have HB2 := Lib.hid hb2; clear hb2))
    go_ret2
    exact ⟨by simp, HB2.out⟩
end Go.Proofs.YtigocjhmgmhocaaGreatDoor

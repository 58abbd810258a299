/- Names: how many bytes of a word a string begins with, and whether it is a name, by the package and by the reference. -/
import Derived.Test.YthbdeaglncoanaaGreatDoorLeaf
import Derived.Lib.Strings
import Derived.LoopTactic
namespace Go.Proofs.YthbdeaglncoanaaGreatDoor
open Go.RowKit
set_option linter.unusedVariables false
set_option linter.unusedSimpArgs false

def wchB (c : Int) : Bool := letB c || digB c || c == 95
def wlen (l : List UInt8) : Nat := (l.takeWhile fun c => wchB (c.toNat : Int)).length
theorem takeWhile_len (p : UInt8 → Bool) : ∀ (l : List UInt8) (k : Nat), k ≤ l.length → (∀ j, j < k → p (l.getD j 0) = true) → (k < l.length → p (l.getD k 0) = false) → (l.takeWhile p).length = k := by
  intro l
  induction l with
  | nil => intro k hk _ _; simp at hk; subst hk; rfl
  | cons a l ih =>
    intro k hk h1 h2
    cases k with
    | zero => have h := h2 (by simp); simp at h; simp [List.takeWhile_cons, h]
    | succ k =>
      have h := h1 0 (by omega)
      simp at h
      simp [List.takeWhile_cons, h]
      refine ih k (by simpa using hk) (fun j hj => ?_) (fun hk' => ?_)
      · simpa using h1 (j + 1) (by omega)
      · simpa using h2 (by simpa using hk')
theorem getD_byte (s : ByteArray) (k : Nat) (h : k < s.size) : s.data.toList.getD k 0 = s[k] := by
  have : k < s.data.toList.length := by simpa using h
  simp [List.getD, h]; rfl
def Upto (s : ByteArray) (k : Nat) : Prop := ∀ j, j < k → wchB ((s.data.toList.getD j 0).toNat : Int) = true
theorem upto_step {s : ByteArray} {k : Nat} (h : Upto s k) (hk : k < s.size) (hc : wchB (s[k].toNat : Int) = true) : Upto s (k + 1) := fun j hj => by
  rcases Nat.lt_succ_iff_lt_or_eq.1 hj with h1 | rfl
  · exact h j h1
  · rw [getD_byte s j hk]; exact hc
theorem wlen_of {s : ByteArray} {k : Nat} (hk : k ≤ s.size) (h : Upto s k) (hc : ∀ h : k < s.size, wchB (s[k].toNat : Int) = false) : wlen s.data.toList = k :=
  takeWhile_len _ _ k (by simpa using hk) h (fun h' => by have h2 : k < s.size := by simpa using h'
                                                          rw [getD_byte s k h2]; exact hc h2)

set_option maxHeartbeats 1000000 in
theorem dword (s : ByteArray) (hs : s.size ≤ maxLen) (w : World) : Calls Tryz.prog 57 #[.string s] w fun e w' => e = .returned (.int .i64 (wlen s.data.toList : Int)) ∧ w = w' := by
  unfold maxLen at hs
  go_enter Tryz.func57, Tryz.ntmps57
  go_wp2
  go_loop [3] (fun i => ∃ k : Nat, k ≤ s.size ∧ i = .int .i64 k ∧ Hid (Upto s k)) (fun i => s.size - (intOf i).toNat)
  case atStart => exact ⟨0, Nat.zero_le _, rfl, fun j hj => absurd hj (Nat.not_lt_zero _)⟩
  case round =>
    obtain ⟨k, hk, rfl, hu⟩ := hrel
    by_cases hlt : k < s.size
    · have hc1 : (s[k].toNat : Int) ≤ 255 := by have := s[k].toNat_lt; omega
      by_cases h1 : letB (s[k].toNat : Int) = true
      · have HU : Hid (Upto s (k + 1)) := upto_step hu.out hlt (by simp [wchB, h1])
        go_wp2_with (first | (go_at_call 56; (with_reducible refine (dletter _ (by omega) (by omega) _).mono ?_); rintro e w' ⟨rfl, rfl⟩) | (go_at_call 74; (with_reducible refine (ddigit _ (by omega) (by omega) _).mono ?_); rintro e w' ⟨rfl, rfl⟩))
        go_round
        case rel => exact ⟨k + 1, by omega, by go_num, HU⟩
        case measure => simp [intOf]; omega
      · have h1' : letB (s[k].toNat : Int) = false := by simpa using h1
        clear h1
        by_cases h2 : digB (s[k].toNat : Int) = true
        · have HU : Hid (Upto s (k + 1)) := upto_step hu.out hlt (by simp [wchB, h2])
          go_wp2_with (first | (go_at_call 56; (with_reducible refine (dletter _ (by omega) (by omega) _).mono ?_); rintro e w' ⟨rfl, rfl⟩) | (go_at_call 74; (with_reducible refine (ddigit _ (by omega) (by omega) _).mono ?_); rintro e w' ⟨rfl, rfl⟩))
          go_round
          case rel => exact ⟨k + 1, by omega, by go_num, HU⟩
          case measure => simp [intOf]; omega
        · have h2' : digB (s[k].toNat : Int) = false := by simpa using h2
          clear h2
          by_cases h3 : ((s[k].toNat : Int) == 95) = true
          · have HU : Hid (Upto s (k + 1)) := upto_step hu.out hlt (by simp only [wchB, h3, Bool.or_true])
            go_wp2_with (first | (go_at_call 56; (with_reducible refine (dletter _ (by omega) (by omega) _).mono ?_); rintro e w' ⟨rfl, rfl⟩) | (go_at_call 74; (with_reducible refine (ddigit _ (by omega) (by omega) _).mono ?_); rintro e w' ⟨rfl, rfl⟩))
            go_round
            case rel => exact ⟨k + 1, by omega, by go_num, HU⟩
            case measure => simp [intOf]; omega
          · have h3' : ((s[k].toNat : Int) == 95) = false := by simpa using h3
            clear h3
            have HW : Hid (wlen s.data.toList = k) := wlen_of hk hu.out (fun _ => by simp only [wchB, h1', h2', h3', Bool.or_false])
            go_wp2_with (first | (go_at_call 56; (with_reducible refine (dletter _ (by omega) (by omega) _).mono ?_); rintro e w' ⟨rfl, rfl⟩) | (go_at_call 74; (with_reducible refine (ddigit _ (by omega) (by omega) _).mono ?_); rintro e w' ⟨rfl, rfl⟩))
            go_ret
            exact ⟨ret_int (by rw [HW.out]), rfl⟩
    · obtain rfl : k = s.size := by omega
      go_wp2
      go_ret
      exact ⟨ret_int (by rw [wlen_of (Nat.le_refl _) hu.out (fun h => absurd h (by omega))]), rfl⟩
set_option maxHeartbeats 1000000 in
theorem rword (s : ByteArray) (hs : s.size ≤ maxLen) (w : World) : Calls Tryz.prog 61 #[.string s, .int .i64 0] w fun e w' => e = .returned (.int .i64 (wlen s.data.toList : Int)) ∧ w = w' := by
  unfold maxLen at hs
  go_enter Tryz.func61, Tryz.ntmps61
  go_wp2
  go_loop [1] (fun i => ∃ k : Nat, k ≤ s.size ∧ i = .int .i64 k ∧ Hid (Upto s k)) (fun i => s.size - (intOf i).toNat)
  case atStart => exact ⟨0, Nat.zero_le _, rfl, fun j hj => absurd hj (Nat.not_lt_zero _)⟩
  case round =>
    obtain ⟨k, hk, rfl, hu⟩ := hrel
    by_cases hlt : k < s.size
    · have hc1 : (s[k].toNat : Int) ≤ 255 := by have := s[k].toNat_lt; omega
      by_cases h1 : letB (s[k].toNat : Int) = true
      · have HU : Hid (Upto s (k + 1)) := upto_step hu.out hlt (by simp [wchB, h1])
        go_wp2_with (first | (go_at_call 60; (with_reducible refine (rletter _ (by omega) (by omega) _).mono ?_); rintro e w' ⟨rfl, rfl⟩) | (go_at_call 76; (with_reducible refine (rdigit _ (by omega) (by omega) _).mono ?_); rintro e w' ⟨rfl, rfl⟩))
        go_round
        case rel => exact ⟨k + 1, by omega, by go_num, HU⟩
        case measure => simp [intOf]; omega
      · have h1' : letB (s[k].toNat : Int) = false := by simpa using h1
        clear h1
        by_cases h2 : digB (s[k].toNat : Int) = true
        · have HU : Hid (Upto s (k + 1)) := upto_step hu.out hlt (by simp [wchB, h2])
          go_wp2_with (first | (go_at_call 60; (with_reducible refine (rletter _ (by omega) (by omega) _).mono ?_); rintro e w' ⟨rfl, rfl⟩) | (go_at_call 76; (with_reducible refine (rdigit _ (by omega) (by omega) _).mono ?_); rintro e w' ⟨rfl, rfl⟩))
          go_round
          case rel => exact ⟨k + 1, by omega, by go_num, HU⟩
          case measure => simp [intOf]; omega
        · have h2' : digB (s[k].toNat : Int) = false := by simpa using h2
          clear h2
          by_cases h3 : ((s[k].toNat : Int) == 95) = true
          · have HU : Hid (Upto s (k + 1)) := upto_step hu.out hlt (by simp only [wchB, h3, Bool.or_true])
            go_wp2_with (first | (go_at_call 60; (with_reducible refine (rletter _ (by omega) (by omega) _).mono ?_); rintro e w' ⟨rfl, rfl⟩) | (go_at_call 76; (with_reducible refine (rdigit _ (by omega) (by omega) _).mono ?_); rintro e w' ⟨rfl, rfl⟩))
            go_round
            case rel => exact ⟨k + 1, by omega, by go_num, HU⟩
            case measure => simp [intOf]; omega
          · have h3' : ((s[k].toNat : Int) == 95) = false := by simpa using h3
            clear h3
            have HW : Hid (wlen s.data.toList = k) := wlen_of hk hu.out (fun _ => by simp only [wchB, h1', h2', h3', Bool.or_false])
            go_wp2_with (first | (go_at_call 60; (with_reducible refine (rletter _ (by omega) (by omega) _).mono ?_); rintro e w' ⟨rfl, rfl⟩) | (go_at_call 76; (with_reducible refine (rdigit _ (by omega) (by omega) _).mono ?_); rintro e w' ⟨rfl, rfl⟩))
            go_ret
            exact ⟨ret_int (by rw [HW.out]), rfl⟩
    · obtain rfl : k = s.size := by omega
      go_wp2
      go_ret
      exact ⟨ret_int (by rw [wlen_of (Nat.le_refl _) hu.out (fun h => absurd h (by omega))]), rfl⟩

def nameB (l : List UInt8) : Bool := decide (0 < l.length) && decide (l.length ≤ 20) && letB ((l.getD 0 0).toNat : Int) && decide (wlen l = l.length)
theorem size_data (s : ByteArray) : s.data.toList.length = s.size := rfl
set_option maxHeartbeats 1000000 in
theorem disname (s : ByteArray) (hs : s.size ≤ maxLen) (w : World) : Calls Tryz.prog 36 #[.string s] w fun e w' => e = .returned (.bool (nameB s.data.toList)) ∧ w = w' := by
  by_cases h0 : 0 < s.size
  · have e0 := getD_byte s 0 h0
    have hc1 : (s[0].toNat : Int) ≤ 255 := by have := s[0].toNat_lt; omega
    have t0 : (!s.toList.isEmpty) = true := by rw [Lib.toList_data]; cases hl : s.data.toList with | nil => (have := size_data s; rw [hl] at this; simp at this; omega) | cons a l => rfl
    have t1 : decide (s.size = 0) = false := decide_eq_false (by omega)
    by_cases h20 : s.size ≤ 20
    · have t2 : decide ((20 : Int) < (s.size : Int)) = false := by simp <;> omega
      unfold nameB
      rw [size_data, e0]
      clear e0
      by_cases hl : letB (s[0].toNat : Int) = true
      · go_enter Tryz.func36, Tryz.ntmps36
        go_wp2_with (first | (go_at_call 56; (with_reducible refine (dletter _ (by omega) (by omega) _).mono ?_); rintro e w' ⟨rfl, rfl⟩) | (go_at_call 57; (with_reducible refine (dword s hs _).mono ?_); rintro e w' ⟨rfl, rfl⟩))
        all_goals (go_ret; refine ⟨ret_bool ?_, rfl⟩; rw [Bool.eq_iff_iff]; simp [*]; try omega)
      · have hl' : letB (s[0].toNat : Int) = false := by simpa using hl
        clear hl
        go_enter Tryz.func36, Tryz.ntmps36
        go_wp2_with (first | (go_at_call 56; (with_reducible refine (dletter _ (by omega) (by omega) _).mono ?_); rintro e w' ⟨rfl, rfl⟩) | (go_at_call 57; (with_reducible refine (dword s hs _).mono ?_); rintro e w' ⟨rfl, rfl⟩))
        all_goals (go_ret; refine ⟨ret_bool ?_, rfl⟩; simp [*])
    · have t2 : decide ((20 : Int) < (s.size : Int)) = true := by simp <;> omega
      have t2b : decide ((s.size : Int) ≤ 20) = false := by simp <;> omega
      have e : nameB s.data.toList = false := by unfold nameB; rw [size_data]; simp [h20]
      have h20h := Lib.hid h20
      rw [e]
      clear e e0
      unfold maxLen at hs
      go_enter Tryz.func36, Tryz.ntmps36
      go_wp2_with fail
      all_goals (go_ret; exact ⟨rfl, rfl⟩)
  · have hz : s.size = 0 := by omega
    have e : nameB s.data.toList = false := by unfold nameB; rw [size_data]; simp [hz]
    have hd : s.data.toList = [] := List.eq_nil_of_length_eq_zero (by rw [size_data]; exact hz)
    have t0 : (!s.toList.isEmpty) = false := by rw [Lib.toList_data, hd]; rfl
    have t3 : s.toList = [] := by rw [Lib.toList_data, hd]
    have t1 : decide (s.size = 0) = true := decide_eq_true hz
    rw [e]
    clear e hd h0
    go_enter Tryz.func36, Tryz.ntmps36
    go_wp2_with fail
    all_goals (go_ret; exact ⟨rfl, rfl⟩)
set_option maxHeartbeats 1000000 in
theorem risname (s : ByteArray) (hs : s.size ≤ maxLen) (w : World) : Calls Tryz.prog 42 #[.string s] w fun e w' => e = .returned (.bool (nameB s.data.toList)) ∧ w = w' := by
  by_cases h0 : 0 < s.size
  · have e0 := getD_byte s 0 h0
    have hc1 : (s[0].toNat : Int) ≤ 255 := by have := s[0].toNat_lt; omega
    have t0 : (!s.toList.isEmpty) = true := by rw [Lib.toList_data]; cases hl : s.data.toList with | nil => (have := size_data s; rw [hl] at this; simp at this; omega) | cons a l => rfl
    have t1 : decide (s.size = 0) = false := decide_eq_false (by omega)
    by_cases h20 : s.size ≤ 20
    · have t2 : decide ((20 : Int) < (s.size : Int)) = false := by simp <;> omega
      unfold nameB
      rw [size_data, e0]
      clear e0
      by_cases hl : letB (s[0].toNat : Int) = true
      · go_enter Tryz.func42, Tryz.ntmps42
        go_wp2_with (first | (go_at_call 60; (with_reducible refine (rletter _ (by omega) (by omega) _).mono ?_); rintro e w' ⟨rfl, rfl⟩) | (go_at_call 61; (with_reducible refine (rword s hs _).mono ?_); rintro e w' ⟨rfl, rfl⟩))
        all_goals (go_ret; refine ⟨ret_bool ?_, rfl⟩; rw [Bool.eq_iff_iff]; simp [*]; try omega)
      · have hl' : letB (s[0].toNat : Int) = false := by simpa using hl
        clear hl
        go_enter Tryz.func42, Tryz.ntmps42
        go_wp2_with (first | (go_at_call 60; (with_reducible refine (rletter _ (by omega) (by omega) _).mono ?_); rintro e w' ⟨rfl, rfl⟩) | (go_at_call 61; (with_reducible refine (rword s hs _).mono ?_); rintro e w' ⟨rfl, rfl⟩))
        all_goals (go_ret; refine ⟨ret_bool ?_, rfl⟩; simp [*])
    · have t2 : decide ((20 : Int) < (s.size : Int)) = true := by simp <;> omega
      have t2b : decide ((s.size : Int) ≤ 20) = false := by simp <;> omega
      have e : nameB s.data.toList = false := by unfold nameB; rw [size_data]; simp [h20]
      have h20h := Lib.hid h20
      rw [e]
      clear e e0
      unfold maxLen at hs
      go_enter Tryz.func42, Tryz.ntmps42
      go_wp2_with fail
      all_goals (go_ret; exact ⟨rfl, rfl⟩)
  · have hz : s.size = 0 := by omega
    have e : nameB s.data.toList = false := by unfold nameB; rw [size_data]; simp [hz]
    have hd : s.data.toList = [] := List.eq_nil_of_length_eq_zero (by rw [size_data]; exact hz)
    have t0 : (!s.toList.isEmpty) = false := by rw [Lib.toList_data, hd]; rfl
    have t3 : s.toList = [] := by rw [Lib.toList_data, hd]
    have t1 : decide (s.size = 0) = true := decide_eq_true hz
    rw [e]
    clear e hd h0
    go_enter Tryz.func42, Tryz.ntmps42
    go_wp2_with fail
    all_goals (go_ret; exact ⟨rfl, rfl⟩)
end Go.Proofs.YthbdeaglncoanaaGreatDoor

/- Plain facts for the law PermitYears: lists of years, counts, sums. -/
import Derived.Test.YtfldmnikdejekaaGreatDoorBrkP
import Derived.Test.YtfldmnikdejekaaGreatDoorChk
import Derived.Test.YtfldmnikdejekaaGreatDoorAwk
namespace Go.Proofs.YtfldmnikdejekaaGreatDoor
open Go.RowKit
set_option linter.unusedVariables false
set_option linter.unusedSimpArgs false

def msm (Y T : Nat → Int) (i : Nat) (y : Int) : Int := min 2305843009213693952 (sm Y T y i)
def mcnt (Y : Nat → Int) (i : Nat) (y : Int) : Int := (cnt Y y i : Int)
theorem map_set_last {K I : List Int} {f f' : Int → Int} {z : Int} (hK : K = I ++ [z]) (hn : ∀ y ∈ I, y ≠ z) (hf : ∀ y, y ≠ z → f' y = f y) : K.map f' = (K.map f).set I.length (f' z) := by
  subst hK
  have h1 : I.map f' = I.map f := List.map_congr_left fun y hy => hf y (hn y hy)
  rw [List.map_append, List.map_append, h1]
  have e : I.length = (I.map f).length := by simp
  rw [e, List.set_append_right _ _ (Nat.le_refl _)]
  simp
/-- Behind place i the years end with the year of i. -/
theorem keys_last {Y : Nat → Int} {n i : Nat} (ha : Asc Y n) (hi : i < n) : ∃ I, keysTo Y (i + 1) = I ++ [Y i] ∧ ∀ y ∈ I, y ≠ Y i := by
  have hp := keys_lt (ha.le (show i + 1 ≤ n from hi))
  by_cases hn : newAt Y i
  · have e : keysTo Y (i + 1) = keysTo Y i ++ [Y i] := by rw [keysTo, if_pos hn]
    rw [e] at hp
    exact ⟨_, e, fun y hy => by have := (List.pairwise_append.1 hp).2.2 y hy (Y i) (by simp); omega⟩
  · have e : keysTo Y (i + 1) = keysTo Y i := by rw [keysTo, if_neg hn]
    have h0 : i ≠ 0 ∧ Y i = Y (i - 1) := by
      unfold newAt at hn
      exact ⟨fun h => hn (.inl h), Classical.byContradiction fun h => hn (.inr h)⟩
    obtain ⟨j, hj⟩ : ∃ j, i = j + 1 := ⟨i - 1, by omega⟩
    subst hj
    obtain ⟨I, h1, h2⟩ := keys_last (i := j) ha (by omega)
    have h3 : Y (j + 1) = Y j := h0.2
    exact ⟨I, by rw [e, h1, h3], fun y hy => by rw [h3]; exact h2 y hy⟩
theorem keys_old {Y : Nat → Int} {i : Nat} (h : ¬ newAt Y i) : keysTo Y (i + 1) = keysTo Y i := by rw [keysTo, if_neg h]
theorem keys_new {Y : Nat → Int} {i : Nat} (h : newAt Y i) : keysTo Y (i + 1) = keysTo Y i ++ [Y i] := by rw [keysTo, if_pos h]
theorem keys_len (Y : Nat → Int) : ∀ i, (keysTo Y i).length ≤ i
  | 0 => by simp [keysTo]
  | i + 1 => by
    have := keys_len Y i
    by_cases h : newAt Y i
    · rw [keys_new h, List.length_append]; simp; omega
    · rw [keys_old h]; omega
/-- A new year has no events yet. -/
theorem new_zero {Y T : Nat → Int} {n i : Nat} (ha : Asc Y n) (hi : i < n) (h : newAt Y i) : mcnt Y i (Y i) = 0 ∧ msm Y T i (Y i) = 0 := by
  have hne : ∀ j, j < i → Y j ≠ Y i := by
    intro j hj e
    rcases h with h | h
    · omega
    · have h1 := ha j (i - 1) (by omega) (by omega)
      have h2 := ha (i - 1) i (by omega) hi
      omega
  unfold mcnt msm
  rw [cnt_zero i hne, sm_zero i hne]
  decide
theorem step_cnt {Y : Nat → Int} {n i : Nat} (ha : Asc Y n) (hi : i < n) : ∃ I, keysTo Y (i + 1) = I ++ [Y i] ∧ (keysTo Y (i + 1)).map (mcnt Y (i + 1)) = ((keysTo Y (i + 1)).map (mcnt Y i)).set I.length (mcnt Y i (Y i) + 1) ∧
    ∀ T : Nat → Int, 0 ≤ T i → 0 ≤ sm Y T (Y i) i → (keysTo Y (i + 1)).map (msm Y T (i + 1)) = ((keysTo Y (i + 1)).map (msm Y T i)).set I.length (min 2305843009213693952 (msm Y T i (Y i) + T i)) := by
  obtain ⟨I, h1, h2⟩ := keys_last ha hi
  refine ⟨I, h1, ?_, fun T hT hs => ?_⟩
  · rw [map_set_last (f := mcnt Y i) (f' := mcnt Y (i + 1)) h1 h2 (fun y hy => by show ((cnt Y y i + _ : Nat) : Int) = _; rw [if_neg (Ne.symm hy)]; rfl)]
    congr 1
    show ((cnt Y (Y i) i + _ : Nat) : Int) = _
    rw [if_pos rfl]; rfl
  · rw [map_set_last (f := msm Y T i) (f' := msm Y T (i + 1)) h1 h2 (fun y hy => by show min _ (sm Y T y i + _) = _; rw [if_neg (Ne.symm hy), Int.add_zero]; rfl)]
    congr 1
    show min _ (sm Y T (Y i) i + _) = _
    rw [if_pos rfl]
    unfold msm
    omega
theorem map_append_one {K : List Int} {f : Int → Int} {z : Int} (h : f z = 0) : (K ++ [z]).map f = K.map f ++ [0] := by rw [List.map_append]; simp [h]
/-- The name tells the number. -/
theorem fnm_inj {a b : Int} (ha : 0 ≤ a ∧ a ≤ 100000) (hb : 0 ≤ b ∧ b ≤ 100000) (h : fnm a = fnm b) : a = b := by
  have h1 : Lib.itoa a = Lib.itoa b := by
    unfold fnm at h
    have h2 : (Lib.itoa a).toArray = (Lib.itoa b).toArray := by injection h
    simpa using h2
  have e1 := atoi_itoa (v := a) (by omega) (by omega)
  have e2 := atoi_itoa (v := b) (by omega) (by omega)
  rw [h1, e2] at e1
  injection e1 with e1
  exact e1.symm
theorem hasN_iff {L : List (Int × Int)} (hL : ∀ x ∈ L, 0 ≤ x.2 ∧ x.2 ≤ 100000) {k v : Int} (hv : 0 ≤ v ∧ v ≤ 100000) : hasN L k (fnm v) = true ↔ (k, v) ∈ L := by
  unfold hasN
  rw [List.any_eq_true]
  constructor
  · rintro ⟨x, hx, h⟩
    simp only [Bool.and_eq_true, decide_eq_true_eq] at h
    have := fnm_inj (hL x hx) hv h.2
    obtain ⟨a, b⟩ := x
    obtain ⟨h1, _⟩ := h
    simp only at h1 this
    rw [← h1, ← this]; exact hx
  · intro h
    exact ⟨(k, v), h, by simp⟩
theorem finds_bound {Y T : Nat → Int} {n : Nat} {ev vol tot : Int} (hn : n ≤ 40) (hY : ∀ i, i < n → 0 ≤ Y i ∧ Y i ≤ 9999) : ∀ x ∈ finds Y T n ev vol tot, 0 ≤ x.2 ∧ x.2 ≤ 100000 := by
  intro x hx
  rcases mem_finds.1 hx with ⟨_, h, _⟩ | ⟨_, i, hi, h, _⟩ | ⟨_, h, _⟩
  · obtain ⟨i, hi, e⟩ := mem_keys.1 h
    have := hY i hi; omega
  · omega
  · obtain ⟨i, hi, e⟩ := mem_keys.1 h
    have := hY i hi; omega
theorem has2 {Y T : Nat → Int} {n i : Nat} {ev vol tot : Int} (hn : n ≤ 40) (hY : ∀ i, i < n → 0 ≤ Y i ∧ Y i ≤ 9999) (hi : i < n) : hasN (finds Y T n ev vol tot) 2 (fnm (i : Int)) = decide (vol < T i) := by
  rw [Bool.eq_iff_iff, hasN_iff (finds_bound hn hY) (by omega), decide_eq_true_iff, mem_finds]
  constructor
  · rintro (⟨h, _⟩ | ⟨_, j, hj, e, h⟩ | ⟨h, _⟩)
    · simp at h
    · have : j = i := by simp at e; omega
      subst this; exact h
    · simp at h
  · intro h
    exact .inr (.inl ⟨rfl, i, hi, rfl, h⟩)
theorem has1 {Y T : Nat → Int} {n : Nat} {y ev vol tot : Int} (hn : n ≤ 40) (hY : ∀ i, i < n → 0 ≤ Y i ∧ Y i ≤ 9999) (hy : y ∈ keysTo Y n) : hasN (finds Y T n ev vol tot) 1 (fnm y) = decide (ev < mcnt Y n y) := by
  have hb : 0 ≤ y ∧ y ≤ 9999 := by obtain ⟨i, hi, e⟩ := mem_keys.1 hy; rw [← e]; exact hY i hi
  rw [Bool.eq_iff_iff, hasN_iff (finds_bound hn hY) (by omega), decide_eq_true_iff, mem_finds]
  constructor
  · rintro (⟨_, _, h⟩ | ⟨h, _⟩ | ⟨h, _⟩)
    · exact h
    · simp at h
    · simp at h
  · intro h
    exact .inl ⟨rfl, hy, h⟩
theorem has3 {Y T : Nat → Int} {n : Nat} {y ev vol tot : Int} (hn : n ≤ 40) (hY : ∀ i, i < n → 0 ≤ Y i ∧ Y i ≤ 9999) (hy : y ∈ keysTo Y n) (ht : tot ≤ 576460752303423488) : hasN (finds Y T n ev vol tot) 3 (fnm y) = decide (tot < msm Y T n y) := by
  have hb : 0 ≤ y ∧ y ≤ 9999 := by obtain ⟨i, hi, e⟩ := mem_keys.1 hy; rw [← e]; exact hY i hi
  rw [Bool.eq_iff_iff, hasN_iff (finds_bound hn hY) (by omega), decide_eq_true_iff, mem_finds]
  unfold msm
  constructor
  · rintro (⟨h, _⟩ | ⟨h, _⟩ | ⟨_, _, h⟩)
    · simp at h
    · simp at h
    · simp only at h; omega
  · intro h
    exact .inr (.inr ⟨rfl, hy, by simp only; omega⟩)
/-- How many findings of the first j are of the second kind. -/
def twos (L : List (Int × Int)) : Nat → Nat
  | 0 => 0
  | j + 1 => twos L j + (if fK L j = 2 then 1 else 0)
theorem twos_le (L : List (Int × Int)) : ∀ j, twos L j ≤ j
  | 0 => Nat.le_refl _
  | j + 1 => by have := twos_le L j; unfold twos; split <;> omega
theorem twos_count (L : List (Int × Int)) : ∀ j, j ≤ L.length → twos L j = ((L.take j).filter fun x => decide (x.1 = 2)).length
  | 0, _ => by simp [twos]
  | j + 1, h => by
    have hj : j < L.length := h
    have e : fK L j = L[j].1 := by simp [fK, List.getD, hj]
    rw [twos, twos_count L j (by omega), List.take_succ_eq_append_getElem hj, List.filter_append, List.length_append, e]
    by_cases h2 : L[j].1 = 2
    · rw [if_pos h2]; simp [h2]
    · rw [if_neg h2]; simp [h2]
theorem twos_finds {Y T : Nat → Int} {n : Nat} {ev vol tot : Int} : twos (finds Y T n ev vol tot) (finds Y T n ev vol tot).length = (greatL T vol n).length := by
  rw [twos_count _ _ (Nat.le_refl _), List.take_length]
  unfold finds
  rw [List.filter_append, List.filter_append]
  have e1 : ∀ (k : Int) (M : List Int), k ≠ 2 → ((M.map fun y => (k, y)).filter fun x => decide (x.1 = 2)) = [] := by
    intro k M hk
    rw [List.filter_eq_nil_iff]
    intro x hx
    obtain ⟨y, _, rfl⟩ := List.mem_map.1 hx
    simp [hk]
  have e2 : ∀ (M : List Int), ((M.map fun y => ((2 : Int), y)).filter fun x => decide (x.1 = 2)) = M.map fun y => (2, y) := by
    intro M
    rw [List.filter_eq_self]
    intro x hx
    obtain ⟨y, _, rfl⟩ := List.mem_map.1 hx
    simp
  rw [e1 1 _ (by omega), e1 3 _ (by omega), e2]
  simp
theorem kinds_asc {Y T : Nat → Int} {n : Nat} {ev vol tot : Int} : (finds Y T n ev vol tot).Pairwise (fun x y => x.1 ≤ y.1) := by
  unfold finds
  have e : ∀ (k : Int) (M : List Int), (M.map fun y => (k, y)).Pairwise (fun x y => x.1 ≤ y.1) := fun k M => by
    rw [List.pairwise_map]
    exact List.pairwise_of_forall fun a b => Int.le_refl _
  rw [List.pairwise_append, List.pairwise_append]
  refine ⟨⟨e _ _, e _ _, ?_⟩, e _ _, ?_⟩
  · intro a ha b hb
    obtain ⟨_, _, rfl⟩ := List.mem_map.1 ha
    obtain ⟨_, _, rfl⟩ := List.mem_map.1 hb
    simp
  · intro a ha b hb
    obtain ⟨_, _, rfl⟩ := List.mem_map.1 hb
    rcases List.mem_append.1 ha with h | h
    · obtain ⟨_, _, rfl⟩ := List.mem_map.1 h; simp
    · obtain ⟨_, _, rfl⟩ := List.mem_map.1 h; simp
theorem kind_at {Y T : Nat → Int} {n j : Nat} {ev vol tot : Int} (hj : j < (finds Y T n ev vol tot).length) : 1 ≤ fK (finds Y T n ev vol tot) j ∧ fK (finds Y T n ev vol tot) j ≤ 3 ∧ (0 < j → fK (finds Y T n ev vol tot) (j - 1) ≤ fK (finds Y T n ev vol tot) j) := by
  have e : ∀ j (hj : j < (finds Y T n ev vol tot).length), fK (finds Y T n ev vol tot) j = ((finds Y T n ev vol tot)[j]).1 := fun j hj => by simp [fK, List.getD, hj]
  have hm := mem_finds.1 (List.getElem_mem hj)
  rw [e j hj]
  refine ⟨?_, ?_, fun h => ?_⟩
  · rcases hm with h | h | h <;> (rw [h.1]; decide)
  · rcases hm with h | h | h <;> (rw [h.1]; decide)
  · rw [e (j - 1) (by omega)]
    exact (List.pairwise_iff_getElem.1 kinds_asc) (j - 1) j (by omega) hj (by omega)
end Go.Proofs.YtfldmnikdejekaaGreatDoor

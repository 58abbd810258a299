/- Plain facts of findings: none exactly if nothing breaks the permit; more events, lesser limits have no fewer. -/
import Derived.Test.YtfldmnikdejekaaGreatDoorPrmP
namespace Go.Proofs.YtfldmnikdejekaaGreatDoor
open Go.RowKit
set_option linter.unusedVariables false
set_option linter.unusedSimpArgs false

/-- A permit is broken behind an event: the plain form. -/
def brkP (Y T : Nat → Int) (ev vol tot : Int) (i : Nat) : Prop := ev < (cnt Y (Y i) (i + 1) : Int) ∨ tot < sm Y T (Y i) (i + 1) ∨ vol < T i
theorem yErr_prefix {ok : Prop} {E : Evs} {n m : Nat} {from_ sec : Int} (h : yErr ok E n from_ sec = 0) (hm : m ≤ n) : yErr ok E m from_ sec = 0 := by
  obtain ⟨h1, h2, h3, h4⟩ := yErr_zero h
  have hr : rightP E m := ⟨by have := h2.1; omega, fun i hi => h2.2 i (by omega)⟩
  rw [yErr_fe ⟨h1, hr⟩ h3]
  exact fe_zero.2 fun i hi => (time_eq (h4 i (by omega))).2
theorem mem_finds {Y T : Nat → Int} {n : Nat} {ev vol tot : Int} {x : Int × Int} : x ∈ finds Y T n ev vol tot ↔
    (x.1 = 1 ∧ x.2 ∈ keysTo Y n ∧ ev < (cnt Y x.2 n : Int)) ∨ (x.1 = 2 ∧ ∃ i : Nat, i < n ∧ x.2 = i ∧ vol < T i) ∨ (x.1 = 3 ∧ x.2 ∈ keysTo Y n ∧ tot < sm Y T x.2 n) := by
  obtain ⟨k, v⟩ := x
  unfold finds manyL muchL
  simp only [List.mem_append, List.mem_map, List.mem_filter, decide_eq_true_eq, Prod.mk.injEq, mem_great]
  constructor
  · rintro ((⟨y, ⟨h1, h2⟩, e1, e2⟩ | ⟨y, h1, e1, e2⟩) | ⟨y, ⟨h1, h2⟩, e1, e2⟩)
    · subst e1 e2; exact .inl ⟨rfl, h1, h2⟩
    · subst e1 e2; exact .inr (.inl ⟨rfl, h1⟩)
    · subst e1 e2; exact .inr (.inr ⟨rfl, h1, h2⟩)
  · rintro (⟨e1, h1, h2⟩ | ⟨e1, h1⟩ | ⟨e1, h1, h2⟩)
    · exact .inl (.inl ⟨v, ⟨h1, h2⟩, e1.symm, rfl⟩)
    · exact .inl (.inr ⟨v, h1, e1.symm, rfl⟩)
    · exact .inr ⟨v, ⟨h1, h2⟩, e1.symm, rfl⟩
theorem cnt_of_brk {Y : Nat → Int} {y ev : Int} (h0 : 0 ≤ ev) : ∀ {n}, (∀ j, j < n → Y j = y → (cnt Y y (j + 1) : Int) ≤ ev) → (cnt Y y n : Int) ≤ ev
  | 0, _ => by simpa [cnt] using h0
  | n + 1, h => by
    by_cases hy : Y n = y
    · exact h n (by omega) hy
    · have e : cnt Y y (n + 1) = cnt Y y n := by show _ + _ = _; rw [if_neg hy]; rfl
      rw [e]
      exact cnt_of_brk h0 fun j hj => h j (by omega)
theorem sm_of_brk {Y T : Nat → Int} {y tot : Int} (h0 : 0 ≤ tot) : ∀ {n}, (∀ j, j < n → Y j = y → sm Y T y (j + 1) ≤ tot) → sm Y T y n ≤ tot
  | 0, _ => by simpa [sm] using h0
  | n + 1, h => by
    by_cases hy : Y n = y
    · exact h n (by omega) hy
    · have e : sm Y T y (n + 1) = sm Y T y n := by show _ + _ = _; rw [if_neg hy, Int.add_zero]
      rw [e]
      exact sm_of_brk h0 fun j hj => h j (by omega)
theorem finds_nil {Y T : Nat → Int} {n : Nat} {ev vol tot : Int} (hT : ∀ i, i < n → 0 ≤ T i) (h0 : 0 ≤ ev) (h1 : 0 ≤ tot) : finds Y T n ev vol tot = [] ↔ ∀ j, j < n → ¬ brkP Y T ev vol tot j := by
  rw [List.eq_nil_iff_forall_not_mem]
  constructor
  · rintro h j hj (hb | hb | hb)
    · refine h (1, Y j) (mem_finds.2 (.inl ⟨rfl, mem_keys.2 ⟨j, hj, rfl⟩, ?_⟩))
      have := cnt_mono (Y := Y) (y := Y j) (m := j + 1) n hj
      show ev < (cnt Y (Y j) n : Int)
      omega
    · refine h (3, Y j) (mem_finds.2 (.inr (.inr ⟨rfl, mem_keys.2 ⟨j, hj, rfl⟩, ?_⟩)))
      have := sm_mono (Y := Y) (T := T) (y := Y j) (m := j + 1) n hT hj
      show tot < sm Y T (Y j) n
      omega
    · exact h (2, (j : Int)) (mem_finds.2 (.inr (.inl ⟨rfl, j, hj, rfl, hb⟩)))
  · intro h x hx
    rcases mem_finds.1 hx with ⟨_, h2, h3⟩ | ⟨_, i, hi, _, h3⟩ | ⟨_, h2, h3⟩
    · have := cnt_of_brk (Y := Y) (y := x.2) (n := n) h0 (fun j hj hy => by
        have := h j hj
        unfold brkP at this
        rw [hy] at this
        omega)
      omega
    · exact h i hi (.inr (.inr h3))
    · have := sm_of_brk (Y := Y) (T := T) (y := x.2) (n := n) h1 (fun j hj hy => by
        have := h j hj
        unfold brkP at this
        rw [hy] at this
        omega)
      omega
theorem keys_mono {Y : Nat → Int} {y : Int} {m n : Nat} (hm : m ≤ n) (h : y ∈ keysTo Y m) : y ∈ keysTo Y n := by
  obtain ⟨i, hi, e⟩ := mem_keys.1 h
  exact mem_keys.2 ⟨i, by omega, e⟩
theorem finds_more {Y T : Nat → Int} {m n : Nat} {ev vol tot : Int} (hT : ∀ i, i < n → 0 ≤ T i) (hm : m ≤ n) {x : Int × Int} (h : x ∈ finds Y T m ev vol tot) : x ∈ finds Y T n ev vol tot := by
  rcases mem_finds.1 h with ⟨h1, h2, h3⟩ | ⟨h1, i, hi, h2, h3⟩ | ⟨h1, h2, h3⟩
  · have := cnt_mono (Y := Y) (y := x.2) (m := m) n hm
    exact mem_finds.2 (.inl ⟨h1, keys_mono hm h2, by omega⟩)
  · exact mem_finds.2 (.inr (.inl ⟨h1, i, by omega, h2, h3⟩))
  · have := sm_mono (Y := Y) (T := T) (y := x.2) (m := m) n hT hm
    exact mem_finds.2 (.inr (.inr ⟨h1, keys_mono hm h2, by omega⟩))
theorem finds_lesser {Y T : Nat → Int} {n : Nat} {ev vol tot ev' vol' tot' : Int} (h1 : ev' ≤ ev) (h2 : vol' ≤ vol) (h3 : tot' ≤ tot) {x : Int × Int} (h : x ∈ finds Y T n ev vol tot) : x ∈ finds Y T n ev' vol' tot' := by
  rcases mem_finds.1 h with ⟨g1, g2, g3⟩ | ⟨g1, i, hi, g2, g3⟩ | ⟨g1, g2, g3⟩
  · exact mem_finds.2 (.inl ⟨g1, g2, by omega⟩)
  · exact mem_finds.2 (.inr (.inl ⟨g1, i, by omega, g2, by omega⟩))
  · exact mem_finds.2 (.inr (.inr ⟨g1, g2, by omega⟩))
theorem asc_len : ∀ {L M : List Int}, L.Pairwise (· < ·) → M.Pairwise (· < ·) → (∀ x, x ∈ L → x ∈ M) → L.length ≤ M.length
  | [], M, _, _, _ => Nat.zero_le _
  | a :: L, [], _, _, h => by have := h a (by simp); cases this
  | a :: L, b :: M, hl, hm, h => by
    have hl' := List.pairwise_cons.1 hl
    have hm' := List.pairwise_cons.1 hm
    have h2 : ∀ x, x ∈ L → x ∈ M := by
      intro x hx
      rcases List.mem_cons.1 (h x (List.mem_cons_of_mem _ hx)) with e | e
      · exfalso
        have h3 := hl'.1 x hx
        rcases List.mem_cons.1 (h a (by simp)) with e2 | e2
        · omega
        · have := hm'.1 a e2; omega
      · exact e
    have := asc_len hl'.2 hm'.2 h2
    simp; omega
theorem great_asc (T : Nat → Int) (vol : Int) : ∀ n, (greatL T vol n).Pairwise (· < ·)
  | 0 => List.Pairwise.nil
  | n + 1 => by
    unfold greatL
    rw [List.pairwise_append]
    refine ⟨great_asc T vol n, by split <;> simp, fun a ha b hb => ?_⟩
    obtain ⟨i, hi, rfl, _⟩ := mem_great.1 ha
    split at hb
    · rw [List.mem_singleton.1 hb]; omega
    · cases hb
theorem finds_len {Y T : Nat → Int} {m n : Nat} {ev vol tot : Int} (hT : ∀ i, i < n → 0 ≤ T i) (ha : Asc Y n) (hm : m ≤ n) : (finds Y T m ev vol tot).length ≤ (finds Y T n ev vol tot).length := by
  unfold finds
  simp only [List.length_append, List.length_map]
  have k1 := keys_lt (ha.le hm)
  have k2 := keys_lt ha
  have a1 : (manyL Y m ev (keysTo Y m)).length ≤ (manyL Y n ev (keysTo Y n)).length := by
    refine asc_len (k1.filter _) (k2.filter _) fun x hx => ?_
    unfold manyL at hx ⊢
    rw [List.mem_filter] at hx ⊢
    have h1 := of_decide_eq_true hx.2
    have := cnt_mono (Y := Y) (y := x) (m := m) n hm
    exact ⟨keys_mono hm hx.1, decide_eq_true (by omega)⟩
  have a2 : (greatL T vol m).length ≤ (greatL T vol n).length := by
    refine asc_len (great_asc _ _ _) (great_asc _ _ _) fun x hx => ?_
    obtain ⟨i, hi, h1, h2⟩ := mem_great.1 hx
    exact mem_great.2 ⟨i, by omega, h1, h2⟩
  have a3 : (muchL Y T m tot (keysTo Y m)).length ≤ (muchL Y T n tot (keysTo Y n)).length := by
    refine asc_len (k1.filter _) (k2.filter _) fun x hx => ?_
    unfold muchL at hx ⊢
    rw [List.mem_filter] at hx ⊢
    have h1 := of_decide_eq_true hx.2
    have := sm_mono (Y := Y) (T := T) (y := x) (m := m) n hT hm
    exact ⟨keys_mono hm hx.1, decide_eq_true (by omega)⟩
  omega
end Go.Proofs.YtfldmnikdejekaaGreatDoor

/- Whether two fractions less than 1 add up to at least 1. -/
import Derived.Test.YtpeelnjkppdkbaaReach
import Derived.Test.YtpeelnjkppdkbaaFrac
namespace Go.Proofs.Ytpeelnjkppdkbaa
open Go.RowKit
set_option linter.unusedVariables false
set_option linter.unusedSimpArgs false

/-- r / d + s / c is at least 1. -/
def car (r d s c : Nat) : Bool := decide (0 < r ∧ 0 < s ∧ c * d ≤ r * c + s * d)
theorem car_zero {r d s c : Nat} (h : r = 0 ∨ s = 0) : car r d s c = false := by
  unfold car; apply decide_eq_false; omega
theorem car_den {r d s c d' c' : Nat} (hd : r ≠ 0 → d = d') (hc : s ≠ 0 → c = c') : car r d s c = car r d' s c' := by
  by_cases h1 : r = 0
  · rw [car_zero (.inl h1), car_zero (.inl h1)]
  · by_cases h2 : s = 0
    · rw [car_zero (.inr h2), car_zero (.inr h2)]
    · rw [hd h1, hc h2]
theorem car_iff {r d s c : Nat} (h1 : 0 < r) (h2 : 0 < s) (hs : s < c) : car r d s c = decide ((c - s) * d ≤ r * c) := by
  unfold car
  have e : (c - s) * d = c * d - s * d := Nat.sub_mul _ _ _
  have h : s * d ≤ c * d := Nat.mul_le_mul_right d (Nat.le_of_lt hs)
  rw [e]
  congr 1
  apply propext
  constructor
  · rintro ⟨_, _, h3⟩; omega
  · intro h3; exact ⟨h1, h2, by omega⟩
theorem prod_lt {a b : Nat} (ha : a ≤ 2251799813685248) (hb : b ≤ 2251799813685248) : a * b < 1329227995784915872903807060280344576 :=
  Nat.lt_of_le_of_lt (Nat.mul_le_mul ha hb) (by decide)
set_option maxHeartbeats 1000000 in
theorem treach (r d s c : Nat) (hr : r < d) (hd : d ≤ 2251799813685248) (hs : s < c) (hc : c ≤ 2251799813685248) (w : World) :
    Calls Try.prog 51 #[.int .i64 (r : Int), .int .i64 (d : Int), .int .i64 (s : Int), .int .i64 (c : Int)] w fun e w' => e = .returned (.bool (car r d s c)) ∧ Below w.heap.size w w' := by
  by_cases h1 : r = 0
  · rw [car_zero (.inl h1)]
    subst h1
    clear hr hd hs hc
    go_enter Try.func51, Try.ntmps51
    go_wp2_with fail
    go_ret
    refine ⟨rfl, ?_⟩
    (repeat' (first | assumption | exact Below.refl _ _ | exact Below.size (by assumption) | (refine Below.setCell ?_ ?_ _) | (refine Below.alloc ?_ ?_ _) | (refine Below.drew ?_) | (refine below_drewN ?_ _) | (refine Below.trans ?_ (Below.mono ‹Below _ _ _› ?_)) | omega | (simp; done) | (simp; omega) | (simp at *; omega)))
  · by_cases h2 : s = 0
    · rw [car_zero (.inr h2)]
      subst h2
      have t1 : ((r : Int) == 0) = false := by simp <;> omega
      have t2 : decide (r = 0) = false := decide_eq_false h1
      clear hr hd hs hc
      go_enter Try.func51, Try.ntmps51
      go_wp2_with fail
      go_ret
      refine ⟨rfl, ?_⟩
      (repeat' (first | assumption | exact Below.refl _ _ | exact Below.size (by assumption) | (refine Below.setCell ?_ ?_ _) | (refine Below.alloc ?_ ?_ _) | (refine Below.drew ?_) | (refine below_drewN ?_ _) | (refine Below.trans ?_ (Below.mono ‹Below _ _ _› ?_)) | omega | (simp; done) | (simp; omega) | (simp at *; omega)))
    · rw [car_iff (by omega) (by omega) hs]
      obtain ⟨k, hk⟩ : ∃ k, k = c - s := ⟨_, rfl⟩
      rw [← hk]
      have e1 : IntKind.i64.wrap ((c : Int) - (s : Int)) = (k : Int) := by rw [IntKind.wrap_i64]; omega
      have S1 := Lib.hid fun w => wproduct r c (by omega) (by omega) (prod_lt (by omega) (by omega)) w
      have S2 := Lib.hid fun w => wproduct k d (by omega) (by omega) (prod_lt (by omega) (by omega)) w
      obtain ⟨z, hz, hcmp⟩ := wcmp (r * c) (k * d) (prod_lt (by omega) (by omega)) (prod_lt (by omega) (by omega))
      have S3 := Lib.hid hcmp
      have HZ : Hid (decide (0 ≤ z) = decide (k * d ≤ r * c)) := decide_eq_decide.2 hz
      obtain ⟨p1, hp1⟩ : ∃ z, z = hiW (r * c) := ⟨_, rfl⟩
      obtain ⟨p0, hp0⟩ : ∃ z, z = loW (r * c) := ⟨_, rfl⟩
      obtain ⟨q1, hq1⟩ : ∃ z, z = hiW (k * d) := ⟨_, rfl⟩
      obtain ⟨q0, hq0⟩ : ∃ z, z = loW (k * d) := ⟨_, rfl⟩
      rw [← hp1, ← hp0] at S1
      rw [← hq1, ← hq0] at S2
      rw [← hp1, ← hp0, ← hq1, ← hq0] at S3
      have t1 : ((r : Int) == 0) = false := by simp <;> omega
      have t2 : decide (r = 0) = false := decide_eq_false h1
      have t3 : ((s : Int) == 0) = false := by simp <;> omega
      have t4 : decide (s = 0) = false := decide_eq_false h2
      clear hr hd hs hc h1 h2 hk hz hcmp hp1 hp0 hq1 hq0
      go_enter Try.func51, Try.ntmps51
      go_wp2_with (first | (go_at_call 57; (with_reducible refine (S1.out _).mono ?_); rintro e w1 ⟨rfl, hb1⟩; obtain ⟨hc1, hf1⟩ := bcell hb1; have hz1 := hb1.size; (try simp at hz1); (try simp only [heap_drew, World.heap_drewN] at hz1); (try simp only [heap_drew, World.heap_drewN] at hc1); (try simp only [heap_drew, World.heap_drewN] at hf1); (try have hs1 := Nat.lt_of_succ_le hz1); (try have hs2 := Nat.lt_of_succ_lt hs1); (try have y0 : w.heap.size < w1.heap.size := by omega); (try have y1 : w.heap.size + 1 < w1.heap.size := by omega); (try have y2 : w.heap.size + 2 < w1.heap.size := by omega)) | (go_at_call 57; (with_reducible refine (S2.out _).mono ?_); rintro e w2 ⟨rfl, hb2⟩; obtain ⟨hc2, hf2⟩ := bcell hb2; have hz2 := hb2.size; (try simp at hz2); (try simp only [heap_drew, World.heap_drewN] at hz2); (try simp only [heap_drew, World.heap_drewN] at hc2); (try simp only [heap_drew, World.heap_drewN] at hf2); (try have hs1 := Nat.lt_of_succ_le hz2); (try have hs2 := Nat.lt_of_succ_lt hs1); (try have y0 : w.heap.size < w2.heap.size := by omega); (try have y1 : w.heap.size + 1 < w2.heap.size := by omega); (try have y2 : w.heap.size + 2 < w2.heap.size := by omega)) | (go_at_call 73; (with_reducible refine (S3.out _).mono ?_); rintro e w3 ⟨rfl, hb3⟩; obtain ⟨hc3, hf3⟩ := bcell hb3; have hz3 := hb3.size; (try simp at hz3); (try simp only [heap_drew, World.heap_drewN] at hz3); (try simp only [heap_drew, World.heap_drewN] at hc3); (try simp only [heap_drew, World.heap_drewN] at hf3); (try have hs1 := Nat.lt_of_succ_le hz3); (try have hs2 := Nat.lt_of_succ_lt hs1); (try have y0 : w.heap.size < w3.heap.size := by omega); (try have y1 : w.heap.size + 1 < w3.heap.size := by omega); (try have y2 : w.heap.size + 2 < w3.heap.size := by omega)))
      go_ret
      refine ⟨ret_bool HZ.out, ?_⟩
      (repeat' (first | assumption | exact Below.refl _ _ | exact Below.size (by assumption) | (refine Below.setCell ?_ ?_ _) | (refine Below.alloc ?_ ?_ _) | (refine Below.drew ?_) | (refine below_drewN ?_ _) | (refine Below.trans ?_ (Below.mono ‹Below _ _ _› ?_)) | omega | (simp; done) | (simp; omega) | (simp at *; omega)))
end Go.Proofs.Ytpeelnjkppdkbaa

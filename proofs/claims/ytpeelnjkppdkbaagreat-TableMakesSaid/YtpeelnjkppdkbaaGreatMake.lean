/- Fractions in lowest terms, made by the package ratio and by the reference. -/
import Derived.Test.YtpeelnjkppdkbaaGreatGcd
namespace Go.Proofs.YtpeelnjkppdkbaaGreat
open Go.RowKit
set_option linter.unusedVariables false
set_option linter.unusedSimpArgs false

theorem qsize (n : Int) (h0 : -9223372036854775808 ≤ n) (h1 : n ≤ 9223372036854775807) (w : World) : Calls Tryz.prog 53 #[.int .i64 n] w fun e w' => e = .returned (.int .u64 n.natAbs) ∧ w = w' := by
  go_enter Tryz.func53, Tryz.ntmps53
  go_wp2
  all_goals (go_ret; refine ⟨ret_int ?_, rfl⟩; (try simp only [IntKind.wrap_u64]); omega)

/-- What Make answers for a denominator greater than 0. -/
def MakeIs (num : Int) (d : Nat) (a b e : Int) : Prop :=
  ((1073741824 < num.natAbs / Nat.gcd num.natAbs d ∨ 1073741824 < d / Nat.gcd num.natAbs d) ∧ a = 0 ∧ b = 0 ∧ e = 5) ∨
  (num.natAbs / Nat.gcd num.natAbs d ≤ 1073741824 ∧ d / Nat.gcd num.natAbs d ≤ 1073741824 ∧ a = (if num < 0 then -((num.natAbs / Nat.gcd num.natAbs d : Nat) : Int) else ((num.natAbs / Nat.gcd num.natAbs d : Nat) : Int)) ∧ b = ((d / Nat.gcd num.natAbs d : Nat) : Int) ∧ e = 0)
theorem makeIs_ex (num : Int) (d : Nat) : ∃ a b e, MakeIs num d a b e := by
  by_cases h : 1073741824 < num.natAbs / Nat.gcd num.natAbs d ∨ 1073741824 < d / Nat.gcd num.natAbs d
  · exact ⟨0, 0, 5, .inl ⟨h, rfl, rfl, rfl⟩⟩
  · exact ⟨_, _, 0, .inr ⟨by omega, by omega, rfl, rfl, rfl⟩⟩

set_option maxHeartbeats 2000000 in
theorem tmake (num : Int) (d : Nat) (a b e : Int) (h0 : -9223372036854775808 < num) (h1 : num ≤ 9223372036854775807) (hd : 0 < d) (hd1 : d < 9223372036854775808) (hm : MakeIs num d a b e) (w : World) :
    Calls Tryz.prog 33 #[.int .i64 num, .int .i64 (d : Int)] w fun e' w' => e' = .returned (.tuple #[.agg #[.int .i64 a, .int .i64 b], .int .i64 e]) ∧ Below w.heap.size w w' := by
  have S1 := fun w => qsize num (by omega) h1 w
  have S2 := fun w => qsize (d : Int) (by omega) (by omega) w
  unfold MakeIs at hm
  obtain ⟨N, hN⟩ : ∃ N, N = num.natAbs := ⟨_, rfl⟩
  rw [← hN] at S1 hm
  rw [show (d : Int).natAbs = d from Int.natAbs_natCast d] at S2
  obtain ⟨g, hg⟩ : ∃ g, g = Nat.gcd N d := ⟨_, rfl⟩
  have hg0 : 0 < g := by rw [hg]; exact Nat.gcd_pos_of_pos_right _ hd
  have S3 := fun w => ugcd N d g (by omega) (by omega) hg w
  rw [← hg] at hm
  have q1 := tdiv_nat N g
  have q2 : (N : Int) / (g : Int) = ((N / g : Nat) : Int) := rfl
  have q3 := tdiv_nat d g
  have q4 : (d : Int) / (g : Int) = ((d / g : Nat) : Int) := rfl
  have b1 : N / g ≤ N := Nat.div_le_self _ _
  have b2 : d / g ≤ d := Nat.div_le_self _ _
  obtain ⟨n, hn⟩ : ∃ n, n = N / g := ⟨_, rfl⟩
  obtain ⟨D, hD⟩ : ∃ n, n = d / g := ⟨_, rfl⟩
  rw [← hn] at q1 q2 b1 hm
  rw [← hD] at q3 q4 b2 hm
  have t1 : ((g : Int) == 0) = false := by simp <;> omega
  have t2 : ¬ (g : Int) = 0 := by omega
  have t3 : ((d : Int) == 0) = false := by simp <;> omega
  have t4 : ¬ (d : Int) = 0 := by omega
  have e1 : IntKind.u64.wrap (n : Int) = (n : Int) := by rw [IntKind.wrap_u64]; omega
  have e2 : IntKind.u64.wrap (D : Int) = (D : Int) := by rw [IntKind.wrap_u64]; omega
  have S1 := Lib.hid S1
  have S2 := Lib.hid S2
  have S3 := Lib.hid S3
  have t5 : decide ((d : Int) < 0) = false := by simp
  rcases hm with ⟨hbig, rfl, rfl, rfl⟩ | ⟨hn1, hD1, ha, hb', rfl⟩
  · by_cases hn1 : 1073741824 < n
    · have T := decide_eq_true (show (1073741824 : Int) < (n : Int) by omega)
      clear h0 h1 hd hd1 hN hg hg0 b1 b2 hn hD hbig hn1
      go_enter Tryz.func33, Tryz.ntmps33
      go_wp2_with (first | (go_at_call 53; (with_reducible refine (S1.out _).mono ?_); rintro e w' ⟨rfl, rfl⟩) | (go_at_call 53; (with_reducible refine (S2.out _).mono ?_); rintro e w' ⟨rfl, rfl⟩) | (go_at_call 54; (with_reducible refine (S3.out _).mono ?_); rintro e w1 ⟨rfl, hb1⟩; obtain ⟨hc1, hf1⟩ := bcell hb1; have hz1 := hb1.size; (try simp at hz1); (try simp only [heap_drew, World.heap_drewN] at hz1); (try simp only [heap_drew, World.heap_drewN] at hc1); (try simp only [heap_drew, World.heap_drewN] at hf1); (try have hs1 := Nat.lt_of_succ_le hz1); (try have hs2 := Nat.lt_of_succ_lt hs1); (try have y0 : w.heap.size < w1.heap.size := by omega); (try have y1 : w.heap.size + 1 < w1.heap.size := by omega); (try have y2 : w.heap.size + 2 < w1.heap.size := by omega)))
      go_quiet (fail)
      go_wp2_with fail
      refine bodyPost_ret (v := .tuple #[.agg #[.int .i64 0, .int .i64 0], .int .i64 5]) (by simp [results, Tryz.results33, go_sem, *]) rfl ⟨rfl, ?_⟩
      (repeat' (first | assumption | exact Below.refl _ _ | exact Below.size (by assumption) | (refine Below.setCell ?_ ?_ _) | (refine Below.alloc ?_ ?_ _) | (refine Below.drew ?_) | (refine below_drewN ?_ _) | (refine Below.trans ?_ (Below.mono ‹Below _ _ _› ?_)) | omega | (simp; done) | (simp; omega) | (simp at *; omega)))
    · have T := decide_eq_false (show ¬ (1073741824 : Int) < (n : Int) by omega)
      have T' := decide_eq_true (show (1073741824 : Int) < (D : Int) by omega)
      clear h0 h1 hd hd1 hN hg hg0 b1 b2 hn hD hbig hn1
      go_enter Tryz.func33, Tryz.ntmps33
      go_wp2_with (first | (go_at_call 53; (with_reducible refine (S1.out _).mono ?_); rintro e w' ⟨rfl, rfl⟩) | (go_at_call 53; (with_reducible refine (S2.out _).mono ?_); rintro e w' ⟨rfl, rfl⟩) | (go_at_call 54; (with_reducible refine (S3.out _).mono ?_); rintro e w1 ⟨rfl, hb1⟩; obtain ⟨hc1, hf1⟩ := bcell hb1; have hz1 := hb1.size; (try simp at hz1); (try simp only [heap_drew, World.heap_drewN] at hz1); (try simp only [heap_drew, World.heap_drewN] at hc1); (try simp only [heap_drew, World.heap_drewN] at hf1); (try have hs1 := Nat.lt_of_succ_le hz1); (try have hs2 := Nat.lt_of_succ_lt hs1); (try have y0 : w.heap.size < w1.heap.size := by omega); (try have y1 : w.heap.size + 1 < w1.heap.size := by omega); (try have y2 : w.heap.size + 2 < w1.heap.size := by omega)))
      go_quiet (fail)
      go_wp2_with fail
      refine bodyPost_ret (v := .tuple #[.agg #[.int .i64 0, .int .i64 0], .int .i64 5]) (by simp [results, Tryz.results33, go_sem, *]) rfl ⟨rfl, ?_⟩
      (repeat' (first | assumption | exact Below.refl _ _ | exact Below.size (by assumption) | (refine Below.setCell ?_ ?_ _) | (refine Below.alloc ?_ ?_ _) | (refine Below.drew ?_) | (refine below_drewN ?_ _) | (refine Below.trans ?_ (Below.mono ‹Below _ _ _› ?_)) | omega | (simp; done) | (simp; omega) | (simp at *; omega)))
  · have T := decide_eq_false (show ¬ (1073741824 : Int) < (n : Int) by omega)
    have T' := decide_eq_false (show ¬ (1073741824 : Int) < (D : Int) by omega)
    have e3 : IntKind.i64.wrap (n : Int) = (n : Int) := by rw [IntKind.wrap_i64]; omega
    have e4 : IntKind.i64.wrap (D : Int) = (D : Int) := by rw [IntKind.wrap_i64]; omega
    subst hb'
    by_cases hs : num < 0
    · rw [if_pos hs] at ha
      have e5 : IntKind.i64.wrap (-(n : Int)) = a := by rw [IntKind.wrap_i64]; omega
      have t6 := decide_eq_true hs
      clear h0 h1 hd hd1 hN hg hg0 b1 b2 hn hD hn1 hD1 hs ha
      go_enter Tryz.func33, Tryz.ntmps33
      go_wp2_with (first | (go_at_call 53; (with_reducible refine (S1.out _).mono ?_); rintro e w' ⟨rfl, rfl⟩) | (go_at_call 53; (with_reducible refine (S2.out _).mono ?_); rintro e w' ⟨rfl, rfl⟩) | (go_at_call 54; (with_reducible refine (S3.out _).mono ?_); rintro e w1 ⟨rfl, hb1⟩; obtain ⟨hc1, hf1⟩ := bcell hb1; have hz1 := hb1.size; (try simp at hz1); (try simp only [heap_drew, World.heap_drewN] at hz1); (try simp only [heap_drew, World.heap_drewN] at hc1); (try simp only [heap_drew, World.heap_drewN] at hf1); (try have hs1 := Nat.lt_of_succ_le hz1); (try have hs2 := Nat.lt_of_succ_lt hs1); (try have y0 : w.heap.size < w1.heap.size := by omega); (try have y1 : w.heap.size + 1 < w1.heap.size := by omega); (try have y2 : w.heap.size + 2 < w1.heap.size := by omega)))
      go_quiet (fail)
      have c0 : (w1.drewN nq).cell? ⟨w.heap.size, 0, none⟩ = some (.int .i64 0) := (hc1 _ _ (by simp)).trans (by simp)
      have c1 : (w1.drewN nq).cell? ⟨w.heap.size, 1, none⟩ = some (.int .i64 0) := (hc1 _ _ (by simp)).trans (by simp)
      have f0 : (w1.drewN nq).frozen? ⟨w.heap.size, 0, none⟩ = false := (hf1 _ _ (by simp)).trans (by simp)
      have f1 : (w1.drewN nq).frozen? ⟨w.heap.size, 1, none⟩ = false := (hf1 _ _ (by simp)).trans (by simp)
      have hbq : Below w.heap.size w (w1.drewN nq) := by (repeat' (first | assumption | exact Below.refl _ _ | exact Below.size (by assumption) | (refine Below.setCell ?_ ?_ _) | (refine Below.alloc ?_ ?_ _) | (refine Below.drew ?_) | (refine below_drewN ?_ _) | (refine Below.trans ?_ (Below.mono ‹Below _ _ _› ?_)) | omega | (simp; done) | (simp; omega) | (simp at *; omega)))
      have hsq : w.heap.size < (w1.drewN nq).heap.size := by simp <;> omega
      generalize w1.drewN nq = w2 at c0 c1 f0 f1 hbq hsq ⊢
      clear hc1 hf1 hb1
      go_wp2_with fail
      refine bodyPost_ret (v := .tuple #[.agg #[.int .i64 a, .int .i64 (D : Int)], .int .i64 0]) (by simp [results, Tryz.results33, go_sem, *]) rfl ⟨rfl, ?_⟩
      (repeat' (first | assumption | exact Below.refl _ _ | exact Below.size (by assumption) | (refine Below.setCell ?_ ?_ _) | (refine Below.alloc ?_ ?_ _) | (refine Below.drew ?_) | (refine below_drewN ?_ _) | (refine Below.trans ?_ (Below.mono ‹Below _ _ _› ?_)) | omega | (simp; done) | (simp; omega) | (simp at *; omega)))
    · rw [if_neg hs] at ha
      subst ha
      have t6 := decide_eq_false hs
      clear h0 h1 hd hd1 hN hg hg0 b1 b2 hn hD hn1 hD1 hs
      go_enter Tryz.func33, Tryz.ntmps33
      go_wp2_with (first | (go_at_call 53; (with_reducible refine (S1.out _).mono ?_); rintro e w' ⟨rfl, rfl⟩) | (go_at_call 53; (with_reducible refine (S2.out _).mono ?_); rintro e w' ⟨rfl, rfl⟩) | (go_at_call 54; (with_reducible refine (S3.out _).mono ?_); rintro e w1 ⟨rfl, hb1⟩; obtain ⟨hc1, hf1⟩ := bcell hb1; have hz1 := hb1.size; (try simp at hz1); (try simp only [heap_drew, World.heap_drewN] at hz1); (try simp only [heap_drew, World.heap_drewN] at hc1); (try simp only [heap_drew, World.heap_drewN] at hf1); (try have hs1 := Nat.lt_of_succ_le hz1); (try have hs2 := Nat.lt_of_succ_lt hs1); (try have y0 : w.heap.size < w1.heap.size := by omega); (try have y1 : w.heap.size + 1 < w1.heap.size := by omega); (try have y2 : w.heap.size + 2 < w1.heap.size := by omega)))
      go_quiet (fail)
      have c0 : (w1.drewN nq).cell? ⟨w.heap.size, 0, none⟩ = some (.int .i64 0) := (hc1 _ _ (by simp)).trans (by simp)
      have c1 : (w1.drewN nq).cell? ⟨w.heap.size, 1, none⟩ = some (.int .i64 0) := (hc1 _ _ (by simp)).trans (by simp)
      have f0 : (w1.drewN nq).frozen? ⟨w.heap.size, 0, none⟩ = false := (hf1 _ _ (by simp)).trans (by simp)
      have f1 : (w1.drewN nq).frozen? ⟨w.heap.size, 1, none⟩ = false := (hf1 _ _ (by simp)).trans (by simp)
      have hbq : Below w.heap.size w (w1.drewN nq) := by (repeat' (first | assumption | exact Below.refl _ _ | exact Below.size (by assumption) | (refine Below.setCell ?_ ?_ _) | (refine Below.alloc ?_ ?_ _) | (refine Below.drew ?_) | (refine below_drewN ?_ _) | (refine Below.trans ?_ (Below.mono ‹Below _ _ _› ?_)) | omega | (simp; done) | (simp; omega) | (simp at *; omega)))
      have hsq : w.heap.size < (w1.drewN nq).heap.size := by simp <;> omega
      generalize w1.drewN nq = w2 at c0 c1 f0 f1 hbq hsq ⊢
      clear hc1 hf1 hb1
      go_wp2_with fail
      refine bodyPost_ret (v := .tuple #[.agg #[.int .i64 (n : Int), .int .i64 (D : Int)], .int .i64 0]) (by simp [results, Tryz.results33, go_sem, *]) rfl ⟨rfl, ?_⟩
      (repeat' (first | assumption | exact Below.refl _ _ | exact Below.size (by assumption) | (refine Below.setCell ?_ ?_ _) | (refine Below.alloc ?_ ?_ _) | (refine Below.drew ?_) | (refine below_drewN ?_ _) | (refine Below.trans ?_ (Below.mono ‹Below _ _ _› ?_)) | omega | (simp; done) | (simp; omega) | (simp at *; omega)))
end Go.Proofs.YtpeelnjkppdkbaaGreat

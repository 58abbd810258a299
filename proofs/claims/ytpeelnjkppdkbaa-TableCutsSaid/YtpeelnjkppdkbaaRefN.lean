/- Merged: RefM, RefN. -/
import Derived.Test.YtpeelnjkppdkbaaRefC
import Derived.Test.YtpeelnjkppdkbaaRefD
import Derived.Test.YtpeelnjkppdkbaaEnds
import Derived.RegionTactic
import Derived.Deep.RegionWith
import Derived.StillTailTactics
namespace Go.Proofs.Ytpeelnjkppdkbaa
open Go.RowKit
set_option linter.unusedVariables false
set_option linter.unusedSimpArgs false
set_option maxHeartbeats 1000000

def nz (n : Nat) : Bool := decide (n ≠ 0)
theorem nz_pos {n : Nat} (h : n ≠ 0) : nz n = true := decide_eq_true h
theorem nz_zero : nz 0 = false := rfl
theorem hi_zero : hi64 0 = 0 := by unfold hi64; rfl
theorem lo_zero : lo64 0 = 0 := by unfold lo64; rfl

theorem rmade_hl (H L : Int) (f : Bool) (h : (H = 0 ∧ L = 0 ∧ f = false) ∨ (H ≠ 0 ∧ f = true) ∨ (H = 0 ∧ L ≠ 0 ∧ f = true)) (w : World) :
    Calls Try.prog 85 #[.agg #[.int .u64 H, .int .u64 L], .bool true] w fun e w' => e = .returned (.agg #[.int .u64 H, .int .u64 L, .bool f]) ∧ Below w.heap.size w w' := by
  rcases h with ⟨rfl, rfl, rfl⟩ | ⟨h, rfl⟩ | ⟨rfl, h, rfl⟩
  · go_enter Try.func85, Try.ntmps85
    go_wp2_with fail
    go_region
    all_goals (go_wp2_with fail)
    all_goals (refine bodyPost_ret (v := .agg #[.int .u64 0, .int .u64 0, .bool false]) (by simp [results, Try.results85, go_sem, *]) rfl ⟨rfl, ?_⟩)
    all_goals ((repeat' (first | assumption | exact Below.refl _ _ | exact Below.size (by assumption) | (refine Below.setCell ?_ ?_ _) | (refine Below.alloc ?_ ?_ _) | (refine Below.drew ?_) | (refine below_drewN ?_ _) | (refine Below.trans ?_ (Below.mono ‹Below _ _ _› ?_)) | omega | (simp; done) | (simp; omega) | (simp at *; omega))))
  · have T : (H == 0) = false := by simp <;> omega
    go_enter Try.func85, Try.ntmps85
    go_wp2_with fail
    go_region
    all_goals (go_wp2_with fail)
    all_goals (refine bodyPost_ret (v := .agg #[.int .u64 H, .int .u64 L, .bool true]) (by simp [results, Try.results85, go_sem, *]) rfl ⟨rfl, ?_⟩)
    all_goals ((repeat' (first | assumption | exact Below.refl _ _ | exact Below.size (by assumption) | (refine Below.setCell ?_ ?_ _) | (refine Below.alloc ?_ ?_ _) | (refine Below.drew ?_) | (refine below_drewN ?_ _) | (refine Below.trans ?_ (Below.mono ‹Below _ _ _› ?_)) | omega | (simp; done) | (simp; omega) | (simp at *; omega))))
  · have T : (L == 0) = false := by simp <;> omega
    go_enter Try.func85, Try.ntmps85
    go_wp2_with fail
    go_region
    all_goals (go_wp2_with fail)
    all_goals (refine bodyPost_ret (v := .agg #[.int .u64 0, .int .u64 L, .bool true]) (by simp [results, Try.results85, go_sem, *]) rfl ⟨rfl, ?_⟩)
    all_goals ((repeat' (first | assumption | exact Below.refl _ _ | exact Below.size (by assumption) | (refine Below.setCell ?_ ?_ _) | (refine Below.alloc ?_ ?_ _) | (refine Below.drew ?_) | (refine below_drewN ?_ _) | (refine Below.trans ?_ (Below.mono ‹Below _ _ _› ?_)) | omega | (simp; done) | (simp; omega) | (simp at *; omega))))
theorem rmade_t (n : Nat) (hn : n < 340282366920938463463374607431768211456) (w : World) :
    Calls Try.prog 85 #[.agg #[.int .u64 (hi64 n), .int .u64 (lo64 n)], .bool true] w fun e w' => e = .returned (.agg #[.int .u64 (hi64 n), .int .u64 (lo64 n), .bool (nz n)]) ∧ Below w.heap.size w w' := by
  refine rmade_hl _ _ _ ?_ w
  by_cases h0 : n = 0
  · exact .inl ⟨by rw [h0, hi_zero], by rw [h0, lo_zero], by rw [h0]; rfl⟩
  · rw [nz_pos h0]
    by_cases h1 : hi64 n = 0
    · exact .inr (.inr ⟨h1, by unfold hi64 at h1; unfold lo64; omega, rfl⟩)
    · exact .inr (.inl ⟨h1, rfl⟩)

theorem plus_parts {a b : Nat} (h : a + b < 340282366920938463463374607431768211456) :
    IntKind.u64.wrap (lo64 a + lo64 b) = lo64 (a + b) ∧ ∃ H : Nat, IntKind.u64.wrap (hi64 a + hi64 b) = (H : Int) ∧
      ((lo64 (a + b) < lo64 a ∧ IntKind.u64.wrap ((H : Int) + 1) = hi64 (a + b)) ∨ (lo64 a ≤ lo64 (a + b) ∧ (H : Int) = hi64 (a + b))) := by
  unfold hi64 lo64
  simp only [IntKind.wrap_u64]
  refine ⟨by omega, a / 18446744073709551616 + b / 18446744073709551616, by omega, by omega⟩
theorem rplus (a b : Nat) (h : a + b < 340282366920938463463374607431768211456) (w : World) :
    Calls Try.prog 89 #[.agg #[.int .u64 (hi64 a), .int .u64 (lo64 a)], .agg #[.int .u64 (hi64 b), .int .u64 (lo64 b)]] w fun e w' => e = .returned (.agg #[.int .u64 (hi64 (a + b)), .int .u64 (lo64 (a + b))]) ∧ Below w.heap.size w w' := by
  obtain ⟨e1, H, e2, hH⟩ := plus_parts h
  clear h
  rcases hH with ⟨h1, e3⟩ | ⟨h1, e3⟩
  · have T : decide (lo64 (a + b) < lo64 a) = true := decide_eq_true h1
    clear h1
    go_enter Try.func89, Try.ntmps89
    go_wp2_with fail
    refine bodyPost_ret (v := .agg #[.int .u64 (hi64 (a + b)), .int .u64 (lo64 (a + b))]) (by simp [results, Try.results89, go_sem, *]) rfl ⟨rfl, ?_⟩
    (repeat' (first | assumption | exact Below.refl _ _ | exact Below.size (by assumption) | (refine Below.setCell ?_ ?_ _) | (refine Below.alloc ?_ ?_ _) | (refine Below.drew ?_) | (refine below_drewN ?_ _) | (refine Below.trans ?_ (Below.mono ‹Below _ _ _› ?_)) | omega | (simp; done) | (simp; omega) | (simp at *; omega)))
  · have T : decide (lo64 (a + b) < lo64 a) = false := decide_eq_false (by omega)
    rw [← e3]
    clear h1 e3
    go_enter Try.func89, Try.ntmps89
    go_wp2_with fail
    refine bodyPost_ret (v := .agg #[.int .u64 (H : Int), .int .u64 (lo64 (a + b))]) (by simp [results, Try.results89, go_sem, *]) rfl ⟨rfl, ?_⟩
    (repeat' (first | assumption | exact Below.refl _ _ | exact Below.size (by assumption) | (refine Below.setCell ?_ ?_ _) | (refine Below.alloc ?_ ?_ _) | (refine Below.drew ?_) | (refine below_drewN ?_ _) | (refine Below.trans ?_ (Below.mono ‹Below _ _ _› ?_)) | omega | (simp; done) | (simp; omega) | (simp at *; omega)))

theorem ropp_f (n : Nat) (hn : n < 340282366920938463463374607431768211456) (w : World) :
    Calls Try.prog 84 #[.agg #[.int .u64 (hi64 n), .int .u64 (lo64 n), .bool false]] w fun e w' => e = .returned (.agg #[.int .u64 (hi64 n), .int .u64 (lo64 n), .bool (nz n)]) ∧ Below w.heap.size w w' := by
  have S := Lib.hid fun w => rmade_t n hn w
  clear hn
  go_enter Try.func84, Try.ntmps84
  go_wp2_with (first | (go_at_call 85; (with_reducible refine (S.out _).mono ?_); rintro e w1 ⟨rfl, hb1⟩; obtain ⟨hc1, hf1⟩ := bcell hb1; have hz1 := hb1.size; (try simp at hz1); (try simp only [heap_drew, World.heap_drewN] at hz1); (try simp only [heap_drew, World.heap_drewN] at hc1); (try simp only [heap_drew, World.heap_drewN] at hf1); (try have hs1 := Nat.lt_of_succ_le hz1); (try have hs2 := Nat.lt_of_succ_lt hs1); (try have y0 : w.heap.size < w1.heap.size := by omega); (try have y1 : w.heap.size + 1 < w1.heap.size := by omega); (try have y2 : w.heap.size + 2 < w1.heap.size := by omega)))
  refine bodyPost_ret (v := .agg #[.int .u64 (hi64 n), .int .u64 (lo64 n), .bool (nz n)]) (by simp [results, Try.results84, go_sem, *]) rfl ⟨rfl, ?_⟩
  (repeat' (first | assumption | exact Below.refl _ _ | exact Below.size (by assumption) | (refine Below.setCell ?_ ?_ _) | (refine Below.alloc ?_ ?_ _) | (refine Below.drew ?_) | (refine below_drewN ?_ _) | (refine Below.trans ?_ (Below.mono ‹Below _ _ _› ?_)) | omega | (simp; done) | (simp; omega) | (simp at *; omega)))
theorem ropp_t (n : Nat) (w : World) :
    Calls Try.prog 84 #[.agg #[.int .u64 (hi64 n), .int .u64 (lo64 n), .bool true]] w fun e w' => e = .returned (.agg #[.int .u64 (hi64 n), .int .u64 (lo64 n), .bool false]) ∧ Below w.heap.size w w' := by
  have S := Lib.hid fun w => rmade n w
  go_enter Try.func84, Try.ntmps84
  go_wp2_with (first | (go_at_call 85; (with_reducible refine (S.out _).mono ?_); rintro e w1 ⟨rfl, hb1⟩; obtain ⟨hc1, hf1⟩ := bcell hb1; have hz1 := hb1.size; (try simp at hz1); (try simp only [heap_drew, World.heap_drewN] at hz1); (try simp only [heap_drew, World.heap_drewN] at hc1); (try simp only [heap_drew, World.heap_drewN] at hf1); (try have hs1 := Nat.lt_of_succ_le hz1); (try have hs2 := Nat.lt_of_succ_lt hs1); (try have y0 : w.heap.size < w1.heap.size := by omega); (try have y1 : w.heap.size + 1 < w1.heap.size := by omega); (try have y2 : w.heap.size + 2 < w1.heap.size := by omega)))
  refine bodyPost_ret (v := .agg #[.int .u64 (hi64 n), .int .u64 (lo64 n), .bool false]) (by simp [results, Try.results84, go_sem, *]) rfl ⟨rfl, ?_⟩
  (repeat' (first | assumption | exact Below.refl _ _ | exact Below.size (by assumption) | (refine Below.setCell ?_ ?_ _) | (refine Below.alloc ?_ ?_ _) | (refine Below.drew ?_) | (refine below_drewN ?_ _) | (refine Below.trans ?_ (Below.mono ‹Below _ _ _› ?_)) | omega | (simp; done) | (simp; omega) | (simp at *; omega)))
/-- The opposite of an opposite. -/
theorem ropp_nz (n : Nat) (w : World) :
    Calls Try.prog 84 #[.agg #[.int .u64 (hi64 n), .int .u64 (lo64 n), .bool (nz n)]] w fun e w' => e = .returned (.agg #[.int .u64 (hi64 n), .int .u64 (lo64 n), .bool false]) ∧ Below w.heap.size w w' := by
  by_cases h0 : n = 0
  · have := ropp_f n (by omega) w
    have e : nz n = false := by rw [h0]; rfl
    rw [e] at this ⊢
    exact this
  · rw [nz_pos h0]; exact ropp_t n w

theorem rdown_neg (N b q : Nat) (hN : N < 340282366920938463463374607431768211456) (hN0 : N ≠ 0) (hb0 : 0 < b) (hb : b < 9223372036854775808) (hq : q = (N + b - 1) / b) (w : World) :
    Calls Try.prog 69 #[.agg #[.int .u64 (hi64 N), .int .u64 (lo64 N), .bool true], .agg #[.int .u64 (hi64 b), .int .u64 (lo64 b), .bool false]] w fun e w' => e = .returned (.agg #[.int .u64 (hi64 q), .int .u64 (lo64 q), .bool (nz q)]) ∧ Below w.heap.size w w' := by
  have S1 := Lib.hid fun w => rdiv N b hN hb0 hb w
  have hqN : N / b ≤ N := Nat.div_le_self _ _
  have hm := Nat.mod_lt N hb0
  have hM : hi64 (N % b) = 0 := by unfold hi64; omega
  have hL : lo64 (N % b) = ((N % b : Nat) : Int) := by unfold lo64; omega
  have hdm := Nat.div_add_mod N b
  rw [hM, hL] at S1
  obtain ⟨Q, hQ⟩ : ∃ z, z = N / b := ⟨_, rfl⟩
  obtain ⟨M, hM'⟩ : ∃ z, z = N % b := ⟨_, rfl⟩
  rw [← hQ, ← hM'] at S1 hdm
  rw [← hQ] at hqN
  rw [← hM'] at hm
  by_cases h0 : M = 0
  · have e : q = Q := by
      rw [hq, Nat.div_eq_iff hb0]; subst h0
      rw [Nat.mul_comm] at hdm
      constructor <;> omega
    subst e
    subst h0
    have S3 := Lib.hid fun w => rmade_t q (by omega) w
    clear hq hQ hM' hM hL hN hb0 hb hm hdm hqN hN0
    go_enter Try.func69, Try.ntmps69
    go_wp2_with (first | (go_at_call 88; (with_reducible refine (S1.out _).mono ?_); rintro e w1 ⟨rfl, hb1⟩; obtain ⟨hc1, hf1⟩ := bcell hb1; have hz1 := hb1.size; (try simp at hz1); (try simp only [heap_drew, World.heap_drewN] at hz1); (try simp only [heap_drew, World.heap_drewN] at hc1); (try simp only [heap_drew, World.heap_drewN] at hf1); (try have hs1 := Nat.lt_of_succ_le hz1); (try have hs2 := Nat.lt_of_succ_lt hs1); (try have y0 : w.heap.size < w1.heap.size := by omega); (try have y1 : w.heap.size + 1 < w1.heap.size := by omega); (try have y2 : w.heap.size + 2 < w1.heap.size := by omega)) | (go_at_call 85; (with_reducible refine (S3.out _).mono ?_); rintro e w1 ⟨rfl, hb1⟩; obtain ⟨hc1, hf1⟩ := bcell hb1; have hz1 := hb1.size; (try simp at hz1); (try simp only [heap_drew, World.heap_drewN] at hz1); (try simp only [heap_drew, World.heap_drewN] at hc1); (try simp only [heap_drew, World.heap_drewN] at hf1); (try have hs1 := Nat.lt_of_succ_le hz1); (try have hs2 := Nat.lt_of_succ_lt hs1); (try have y0 : w.heap.size < w1.heap.size := by omega); (try have y1 : w.heap.size + 1 < w1.heap.size := by omega); (try have y2 : w.heap.size + 2 < w1.heap.size := by omega)))
    refine bodyPost_ret (v := .agg #[.int .u64 (hi64 q), .int .u64 (lo64 q), .bool (nz q)]) (by simp [results, Try.results69, go_sem, *]) rfl ⟨rfl, ?_⟩
    (repeat' (first | assumption | exact Below.refl _ _ | exact Below.size (by assumption) | (refine Below.setCell ?_ ?_ _) | (refine Below.alloc ?_ ?_ _) | (refine Below.drew ?_) | (refine below_drewN ?_ _) | (refine Below.trans ?_ (Below.mono ‹Below _ _ _› ?_)) | omega | (simp; done) | (simp; omega) | (simp at *; omega)))
  · have e : q = Q + 1 := by
      rw [hq, Nat.div_eq_iff hb0]
      rw [Nat.mul_comm] at hdm
      rw [Nat.add_mul, Nat.one_mul]
      constructor <;> omega
    have hlt : Q + 1 < 340282366920938463463374607431768211456 := by
      by_cases hb1 : b = 1
      · subst hb1; omega
      · have : Q * 2 ≤ b * Q := by rw [Nat.mul_comm]; exact Nat.mul_le_mul_right Q (by omega)
        omega
    have S2 := fun w => rplus Q 1 hlt w
    rw [show hi64 1 = 0 from by unfold hi64; rfl, show lo64 1 = 1 from by unfold lo64; rfl, ← e] at S2
    have S2 := Lib.hid S2
    have S3 := Lib.hid fun w => rmade_t q (by omega) w
    have T : ((M : Int) == 0) = false := by simp <;> omega
    clear hq hQ hM' hM hL hN hb0 hb hm hdm hqN hN0 e hlt h0
    go_enter Try.func69, Try.ntmps69
    go_wp2_with (first | (go_at_call 88; (with_reducible refine (S1.out _).mono ?_); rintro e w1 ⟨rfl, hb1⟩; obtain ⟨hc1, hf1⟩ := bcell hb1; have hz1 := hb1.size; (try simp at hz1); (try simp only [heap_drew, World.heap_drewN] at hz1); (try simp only [heap_drew, World.heap_drewN] at hc1); (try simp only [heap_drew, World.heap_drewN] at hf1); (try have hs1 := Nat.lt_of_succ_le hz1); (try have hs2 := Nat.lt_of_succ_lt hs1); (try have y0 : w.heap.size < w1.heap.size := by omega); (try have y1 : w.heap.size + 1 < w1.heap.size := by omega); (try have y2 : w.heap.size + 2 < w1.heap.size := by omega)) | ((go_at_call 89; (with_reducible refine (S2.out _).mono ?_); rintro e w2 ⟨rfl, hb2⟩; obtain ⟨hc2, hf2⟩ := bcell hb2; have hz2 := hb2.size; (try simp at hz2); (try simp only [heap_drew, World.heap_drewN] at hz2); (try simp only [heap_drew, World.heap_drewN] at hc2); (try simp only [heap_drew, World.heap_drewN] at hf2); (try have hs1 := Nat.lt_of_succ_le hz2); (try have hs2 := Nat.lt_of_succ_lt hs1); (try have y0 : w.heap.size < w2.heap.size := by omega); (try have y1 : w.heap.size + 1 < w2.heap.size := by omega); (try have y2 : w.heap.size + 2 < w2.heap.size := by omega)); (try have u0 : w1.heap.size < w2.heap.size := (by omega)); (try have u1 : w1.heap.size + 1 < w2.heap.size := (by omega)); have c0 : w2.cell? ⟨w1.heap.size, 0, none⟩ = some (.int .u64 (hi64 Q)) := (hc2 _ _ (by simp <;> omega)).trans (by simp); have c1 : w2.cell? ⟨w1.heap.size, 1, none⟩ = some (.int .u64 (lo64 Q)) := (hc2 _ _ (by simp <;> omega)).trans (by simp); have k0 : w2.frozen? ⟨w1.heap.size, 0, none⟩ = false := (hf2 _ _ (by simp <;> omega)).trans (by simp); have k1 : w2.frozen? ⟨w1.heap.size, 1, none⟩ = false := (hf2 _ _ (by simp <;> omega)).trans (by simp)) | ((go_at_call 85; (with_reducible refine (S3.out _).mono ?_); rintro e w3 ⟨rfl, hb3⟩; obtain ⟨hc3, hf3⟩ := bcell hb3; have hz3 := hb3.size; (try simp at hz3); (try simp only [heap_drew, World.heap_drewN] at hz3); (try simp only [heap_drew, World.heap_drewN] at hc3); (try simp only [heap_drew, World.heap_drewN] at hf3); (try have hs1 := Nat.lt_of_succ_le hz3); (try have hs2 := Nat.lt_of_succ_lt hs1); (try have y0 : w.heap.size < w3.heap.size := by omega); (try have y1 : w.heap.size + 1 < w3.heap.size := by omega); (try have y2 : w.heap.size + 2 < w3.heap.size := by omega))))
    refine bodyPost_ret (v := .agg #[.int .u64 (hi64 q), .int .u64 (lo64 q), .bool (nz q)]) (by simp [results, Try.results69, go_sem, *]) rfl ⟨rfl, ?_⟩
    (repeat' (first | assumption | exact Below.refl _ _ | exact Below.size (by assumption) | (refine Below.setCell ?_ ?_ _) | (refine Below.alloc ?_ ?_ _) | (refine Below.drew ?_) | (refine below_drewN ?_ _) | (refine Below.trans ?_ (Below.mono ‹Below _ _ _› ?_)) | omega | (simp; done) | (simp; omega) | (simp at *; omega)))
theorem rdown_nz (N b q : Nat) (hN : N < 340282366920938463463374607431768211456) (hb0 : 0 < b) (hb : b < 9223372036854775808) (hq : q = (N + b - 1) / b) (w : World) :
    Calls Try.prog 69 #[.agg #[.int .u64 (hi64 N), .int .u64 (lo64 N), .bool (nz N)], .agg #[.int .u64 (hi64 b), .int .u64 (lo64 b), .bool false]] w fun e w' => e = .returned (.agg #[.int .u64 (hi64 q), .int .u64 (lo64 q), .bool (nz q)]) ∧ Below w.heap.size w w' := by
  by_cases h0 : N = 0
  · have e : q = 0 := by rw [hq, h0]; exact Nat.div_eq_of_lt (by omega)
    have := rdown N b hN hb0 hb w
    rw [show N / b = 0 from by rw [h0]; exact Nat.zero_div b] at this
    rw [e]
    have e2 : nz N = false := by rw [h0]; rfl
    rw [e2]
    exact this
  · rw [nz_pos h0]; exact rdown_neg N b q hN h0 hb0 hb hq w
theorem rup (N b q : Nat) (hN : N < 340282366920938463463374607431768211456) (hb0 : 0 < b) (hb : b < 9223372036854775808) (hq : q = (N + b - 1) / b) (w : World) :
    Calls Try.prog 66 #[.agg #[.int .u64 (hi64 N), .int .u64 (lo64 N), .bool false], .agg #[.int .u64 (hi64 b), .int .u64 (lo64 b), .bool false]] w fun e w' => e = .returned (.agg #[.int .u64 (hi64 q), .int .u64 (lo64 q), .bool false]) ∧ Below w.heap.size w w' := by
  have S1 := Lib.hid fun w => ropp_f N hN w
  have S2 := Lib.hid fun w => rdown_nz N b q hN hb0 hb hq w
  have S3 := Lib.hid fun w => ropp_nz q w
  clear hN hb0 hb hq
  go_enter Try.func66, Try.ntmps66
  go_upto_region 1 with fail
  go_region_with (first | (go_at_call 84; (with_reducible refine (S1.out _).mono ?_); rintro e w1 ⟨rfl, hb1⟩; obtain ⟨hc1, hf1⟩ := bcell hb1; have hz1 := hb1.size; (try simp at hz1); (try simp only [heap_drew, World.heap_drewN] at hz1); (try simp only [heap_drew, World.heap_drewN] at hc1); (try simp only [heap_drew, World.heap_drewN] at hf1); (try have hs1 := Nat.lt_of_succ_le hz1); (try have hs2 := Nat.lt_of_succ_lt hs1); (try have y0 : w.heap.size < w1.heap.size := by omega); (try have y1 : w.heap.size + 1 < w1.heap.size := by omega); (try have y2 : w.heap.size + 2 < w1.heap.size := by omega)) | (go_at_call 69; (with_reducible refine (S2.out _).mono ?_); rintro e w2 ⟨rfl, hb2⟩; obtain ⟨hc2, hf2⟩ := bcell hb2; have hz2 := hb2.size; (try simp at hz2); (try simp only [heap_drew, World.heap_drewN] at hz2); (try simp only [heap_drew, World.heap_drewN] at hc2); (try simp only [heap_drew, World.heap_drewN] at hf2); (try have hs1 := Nat.lt_of_succ_le hz2); (try have hs2 := Nat.lt_of_succ_lt hs1); (try have y0 : w.heap.size < w2.heap.size := by omega); (try have y1 : w.heap.size + 1 < w2.heap.size := by omega); (try have y2 : w.heap.size + 2 < w2.heap.size := by omega)) | (go_at_call 84; (with_reducible refine (S3.out _).mono ?_); rintro e w3 ⟨rfl, hb3⟩; obtain ⟨hc3, hf3⟩ := bcell hb3; have hz3 := hb3.size; (try simp at hz3); (try simp only [heap_drew, World.heap_drewN] at hz3); (try simp only [heap_drew, World.heap_drewN] at hc3); (try simp only [heap_drew, World.heap_drewN] at hf3); (try have hs1 := Nat.lt_of_succ_le hz3); (try have hs2 := Nat.lt_of_succ_lt hs1); (try have y0 : w.heap.size < w3.heap.size := by omega); (try have y1 : w.heap.size + 1 < w3.heap.size := by omega); (try have y2 : w.heap.size + 2 < w3.heap.size := by omega)))
  all_goals (repeat (first | go_values | go_skip | go_guarded | go_step | go_upon))
  all_goals (refine bodyPost_ret (v := .agg #[.int .u64 (hi64 q), .int .u64 (lo64 q), .bool false]) (by simp [results, Try.results66, go_sem, *]) rfl ⟨rfl, ?_⟩)
  all_goals ((repeat' (first | assumption | exact Below.refl _ _ | exact Below.size (by assumption) | (refine Below.setCell ?_ ?_ _) | (refine Below.alloc ?_ ?_ _) | (refine Below.drew ?_) | (refine below_drewN ?_ _) | (refine Below.trans ?_ (Below.mono ‹Below _ _ _› ?_)) | omega | (simp; done) | (simp; omega) | (simp at *; omega))))
theorem rceilof (a b c q : Nat) (ha : a < 9223372036854775808) (hb : b < 9223372036854775808) (hc : c < 9223372036854775808) (hc0 : 0 < c) (hq : q = (a * b + c - 1) / c) (hq' : q < 9223372036854775808) (w : World) :
    Calls Try.prog 46 #[.int .i64 (a : Int), .int .i64 (b : Int), .int .i64 (c : Int)] w fun e w' => e = .returned (.int .i64 (q : Int)) ∧ Below w.heap.size w w' := by
  have hp : a * b < 340282366920938463463374607431768211456 := Nat.lt_of_le_of_lt (Nat.mul_le_mul (Nat.le_of_lt ha) (Nat.le_of_lt hb)) (by decide)
  have S1 := Lib.hid fun w => rtimes a b ha hb w
  have S2 := Lib.hid fun w => rofint c hc w
  have S3 := Lib.hid fun w => rup (a * b) c q hp hc0 hc hq w
  have S4 := Lib.hid fun w => rint q hq' w
  clear hp ha hb hc hc0 hq hq'
  go_enter Try.func46, Try.ntmps46
  go_wp2_with (first | (go_at_call 67; (with_reducible refine (S1.out _).mono ?_); rintro e w1 ⟨rfl, hb1⟩; obtain ⟨hc1, hf1⟩ := bcell hb1; have hz1 := hb1.size; (try simp at hz1); (try simp only [heap_drew, World.heap_drewN] at hz1); (try simp only [heap_drew, World.heap_drewN] at hc1); (try simp only [heap_drew, World.heap_drewN] at hf1); (try have hs1 := Nat.lt_of_succ_le hz1); (try have hs2 := Nat.lt_of_succ_lt hs1); (try have y0 : w.heap.size < w1.heap.size := by omega); (try have y1 : w.heap.size + 1 < w1.heap.size := by omega); (try have y2 : w.heap.size + 2 < w1.heap.size := by omega)) | (go_at_call 68; (with_reducible refine (S2.out _).mono ?_); rintro e w1 ⟨rfl, hb1⟩; obtain ⟨hc1, hf1⟩ := bcell hb1; have hz1 := hb1.size; (try simp at hz1); (try simp only [heap_drew, World.heap_drewN] at hz1); (try simp only [heap_drew, World.heap_drewN] at hc1); (try simp only [heap_drew, World.heap_drewN] at hf1); (try have hs1 := Nat.lt_of_succ_le hz1); (try have hs2 := Nat.lt_of_succ_lt hs1); (try have y0 : w.heap.size < w1.heap.size := by omega); (try have y1 : w.heap.size + 1 < w1.heap.size := by omega); (try have y2 : w.heap.size + 2 < w1.heap.size := by omega)) | (go_at_call 66; (with_reducible refine (S3.out _).mono ?_); rintro e w1 ⟨rfl, hb1⟩; obtain ⟨hc1, hf1⟩ := bcell hb1; have hz1 := hb1.size; (try simp at hz1); (try simp only [heap_drew, World.heap_drewN] at hz1); (try simp only [heap_drew, World.heap_drewN] at hc1); (try simp only [heap_drew, World.heap_drewN] at hf1); (try have hs1 := Nat.lt_of_succ_le hz1); (try have hs2 := Nat.lt_of_succ_lt hs1); (try have y0 : w.heap.size < w1.heap.size := by omega); (try have y1 : w.heap.size + 1 < w1.heap.size := by omega); (try have y2 : w.heap.size + 2 < w1.heap.size := by omega)) | (go_at_call 65; (with_reducible refine (S4.out _).mono ?_); rintro e w1 ⟨rfl, hb1⟩; obtain ⟨hc1, hf1⟩ := bcell hb1; have hz1 := hb1.size; (try simp at hz1); (try simp only [heap_drew, World.heap_drewN] at hz1); (try simp only [heap_drew, World.heap_drewN] at hc1); (try simp only [heap_drew, World.heap_drewN] at hf1); (try have hs1 := Nat.lt_of_succ_le hz1); (try have hs2 := Nat.lt_of_succ_lt hs1); (try have y0 : w.heap.size < w1.heap.size := by omega); (try have y1 : w.heap.size + 1 < w1.heap.size := by omega); (try have y2 : w.heap.size + 2 < w1.heap.size := by omega)))
  go_ret
  refine ⟨rfl, ?_⟩
  (repeat' (first | assumption | exact Below.refl _ _ | exact Below.size (by assumption) | (refine Below.setCell ?_ ?_ _) | (refine Below.alloc ?_ ?_ _) | (refine Below.drew ?_) | (refine below_drewN ?_ _) | (refine Below.trans ?_ (Below.mono ‹Below _ _ _› ?_)) | omega | (simp; done) | (simp; omega) | (simp at *; omega)))
end Go.Proofs.Ytpeelnjkppdkbaa

namespace Go.Proofs.Ytpeelnjkppdkbaa
open Go.RowKit
set_option linter.unusedVariables false
set_option linter.unusedSimpArgs false

theorem rleast_first (b off n c : Nat) (X Y : Nat → Int) (y : Int) (w : World) (h1 : 1 ≤ n) (ht : TabAt w b off n X Y) (hy : y ≤ Y 0) :
    Calls Try.prog 24 #[.slice (some ⟨b, off, none⟩) n c, .int .i64 y] w fun e w' => e = .returned (.tuple #[.int .i64 (X 0), .bool true]) ∧ Below w.heap.size w w' := by
  have hx0 := (ht.2 0 (by omega)).1
  have hy0 := (ht.2 0 (by omega)).2
  simp only [Nat.zero_mul, Nat.add_zero] at hx0 hy0
  have hb := ht.1
  have T := decide_eq_true hy
  have T0 : (0 : Int) < (n : Int) := by omega
  clear ht hy
  go_enter Try.func24, Try.ntmps24
  go_wp2_with fail
  go_ret2
  refine ⟨rfl, ?_⟩
  (repeat' (first | assumption | exact Below.refl _ _ | exact Below.size (by assumption) | (refine Below.setCell ?_ ?_ _) | (refine Below.alloc ?_ ?_ _) | (refine Below.drew ?_) | (refine below_drewN ?_ _) | (refine Below.trans ?_ (Below.mono ‹Below _ _ _› ?_)) | omega | (simp; done) | (simp; omega) | (simp at *; omega)))

set_option maxHeartbeats 2000000 in
set_option maxRecDepth 100000 in
theorem rleast_none (b off n c : Nat) (X Y : Nat → Int) (y : Int) (w : World) (h1 : 1 ≤ n) (h2 : n ≤ 100) (ht : TabAt w b off n X Y) (hs : FirstAt (fun j => decide (y ≤ Y j)) n n) :
    Calls Try.prog 24 #[.slice (some ⟨b, off, none⟩) n c, .int .i64 y] w fun e w' => e = .returned (.tuple #[.int .i64 0, .bool false]) ∧ Below w.heap.size w w' := by
  have HT := Lib.hid ht
  have HS := Lib.hid hs
  have H2 := Lib.hid h2
  have hy0 := (ht.2 0 (by omega)).2
  simp only [Nat.zero_mul, Nat.add_zero] at hy0
  have hb := ht.1
  have T := hs.2.1 0 (by omega)
  have T0 : (0 : Int) < (n : Int) := by omega
  simp only [] at T
  clear ht hs h2
  go_enter Try.func24, Try.ntmps24
  go_wp2_with fail
  go_loop [6] (fun u => ∃ i : Nat, Hid (i ≤ n) ∧ u = .int .i64 i) (fun u => n - (intOf u).toNat)
  case atStart => exact ⟨1, h1, rfl⟩
  case round =>
    obtain ⟨i, Hi, rfl⟩ := hrel
    by_cases hlt : i < n
    · have T0 : decide ((i : Int) < (n : Int)) = true := by simp <;> omega
      have T0' : decide (i < n) = true := decide_eq_true hlt
      obtain ⟨i', hi'⟩ : ∃ z, z = i + 1 := ⟨_, rfl⟩
      have x0 : IntKind.i64.wrap ((i : Int) + 1) = (i' : Int) := by have := H2.out; rw [IntKind.wrap_i64]; omega
      have hY := (HT.out.2 i hlt).2
      have T1 := HS.out.2.1 i hlt
      simp only [] at T1
      have HI' : Hid (i' ≤ n) := by show i' ≤ n; omega
      have HMS : Hid (n - (intOf (Value.int .i64 (i' : Int))).toNat < n - (intOf (Value.int .i64 (i : Int))).toNat) := by show _ < _; simp [intOf]; omega
      clear hi'
      go_wp2_with fail
      go_round
      case rel => exact ⟨i', HI', rfl⟩
      case measure => exact HMS.out
    · have e : i = n := by have := Hi.out; omega
      have T0' : decide (i < n) = false := decide_eq_false hlt
      clear e hlt
      go_wp2_with fail
      go_ret2
      refine ⟨rfl, ?_⟩
      (repeat' (first | assumption | exact Below.refl _ _ | exact Below.size (by assumption) | (refine Below.setCell ?_ ?_ _) | (refine Below.alloc ?_ ?_ _) | (refine Below.drew ?_) | (refine below_drewN ?_ _) | (refine Below.trans ?_ (Below.mono ‹Below _ _ _› ?_)) | omega | (simp; done) | (simp; omega) | (simp at *; omega)))

set_option maxHeartbeats 2000000 in
set_option maxRecDepth 100000 in
theorem rleast_mid (b off n c p T D U : Nat) (X Y : Nat → Int) (y : Int) (w : World) (hv : TabOK n X Y) (ht : TabAt w b off n X Y) (hp : p + 1 < n) (hs : FirstAt (fun j => decide (y ≤ Y j)) n (p + 1))
    (eT : y - Y p = (T : Int)) (eD : X (p + 1) - X p = (D : Int)) (eU : Y (p + 1) - Y p = (U : Int)) (bT : T ≤ U) (hU : 0 < U) (v : Int) (hvv : v = X p + (((T * D + U - 1) / U : Nat) : Int)) :
    Calls Try.prog 24 #[.slice (some ⟨b, off, none⟩) n c, .int .i64 y] w fun e w' => e = .returned (.tuple #[.int .i64 v, .bool true]) ∧ Below w.heap.size w w' := by
  have bp := in_of hv (by omega : p < n)
  have bp1 := in_of hv hp
  have h2 := hv.2.1
  obtain ⟨k, hk⟩ : ∃ k, k = p + 1 := ⟨_, rfl⟩
  rw [← hk] at hs hp eD eU bp1
  obtain ⟨q1, q2, q3⟩ := inv_bounds (T := T) (D := D) (U := U) bT (by omega) (by omega) hU
  obtain ⟨hi, hhi⟩ : ∃ z, z = (T * D + U - 1) / U := ⟨_, rfl⟩
  rw [← hhi] at q3 hvv
  have SC := Lib.hid fun w => rceilof T D U hi (by omega) (by omega) (by omega) hU hhi (by omega) w
  have HT := Lib.hid ht
  have HS := Lib.hid hs
  have H2 := Lib.hid h2
  have hb := ht.1
  have hpn : p < n := by omega
  have hx1 := (HT.out.2 p hpn).1
  have hy1 := (HT.out.2 p hpn).2
  have hx2 := (HT.out.2 k hp).1
  have hy2 := (HT.out.2 k hp).2
  have e1 : IntKind.i64.wrap ((k : Int) - 1) = (p : Int) := by rw [IntKind.wrap_i64]; omega
  have e2 : IntKind.i64.wrap (y - Y p) = (T : Int) := by rw [eT]; exact wrap_id (by omega) (by omega)
  have e3 : IntKind.i64.wrap (X k - X p) = (D : Int) := by rw [eD]; exact wrap_id (by omega) (by omega)
  have e4 : IntKind.i64.wrap (Y k - Y p) = (U : Int) := by rw [eU]; exact wrap_id (by omega) (by omega)
  have e5 : IntKind.i64.wrap (X p + (hi : Int)) = v := by rw [hvv]; exact wrap_id (by omega) (by omega)
  have k0 : (0 : Int) ≤ (p : Int) := by omega
  have k1 : (p : Int) < (n : Int) := by omega
  have k2 : (0 : Int) ≤ (k : Int) := by omega
  have k3 : (k : Int) < (n : Int) := by omega
  have hy0 := (ht.2 0 (by omega)).2
  simp only [Nat.zero_mul, Nat.add_zero] at hy0
  have TF := hs.2.1 0 (by omega)
  have TN : (0 : Int) < (n : Int) := by omega
  have hk1 : 1 ≤ k := by omega
  simp only [] at TF
  clear hs hv ht bp bp1 h2 q1 q2 q3 hhi hvv eT eD eU bT hU hk
  go_enter Try.func24, Try.ntmps24
  go_wp2_with fail
  go_loop [6] (fun u => ∃ i : Nat, Hid (i ≤ k) ∧ u = .int .i64 i) (fun u => n - (intOf u).toNat)
  case atStart => exact ⟨1, hk1, rfl⟩
  case round =>
    obtain ⟨i, Hi, rfl⟩ := hrel
    have hlt : i < n := by have := Hi.out; omega
    rcases first_at HS.out hlt Hi.out with ⟨hpp, hik⟩ | ⟨hpp, hik⟩
    · subst hik
      have T0 : decide ((i : Int) < (n : Int)) = true := by simp <;> omega
      have T0' : decide (i < n) = true := decide_eq_true hlt
      go_upto_region 7 with fail
      go_still_tail 32, (by kernel_rfl)
      change wpList _ _ _ _ _ w.drew
      go_wp2_with (first | (go_at_call 46; (with_reducible refine (SC.out _).mono ?_); rintro e w1 ⟨rfl, hb1⟩; obtain ⟨hc1, hf1⟩ := bcell hb1; have hz1 := hb1.size; (try simp at hz1); (try simp only [heap_drew, World.heap_drewN] at hz1); (try simp only [heap_drew, World.heap_drewN] at hc1); (try simp only [heap_drew, World.heap_drewN] at hf1); (try have hs1 := Nat.lt_of_succ_le hz1); (try have hs2 := Nat.lt_of_succ_lt hs1); (try have y0 : w.heap.size < w1.heap.size := by omega); (try have y1 : w.heap.size + 1 < w1.heap.size := by omega); (try have y2 : w.heap.size + 2 < w1.heap.size := by omega); (try have yb : b < w1.heap.size := by omega)))
      all_goals (go_ret2; refine ⟨rfl, ?_⟩; (repeat' (first | assumption | exact Below.refl _ _ | exact Below.size (by assumption) | (refine Below.setCell ?_ ?_ _) | (refine Below.alloc ?_ ?_ _) | (refine Below.drew ?_) | (refine below_drewN ?_ _) | (refine Below.trans ?_ (Below.mono ‹Below _ _ _› ?_)) | omega | (simp; done) | (simp; omega) | (simp at *; omega))))
    · have T0 : decide ((i : Int) < (n : Int)) = true := by simp <;> omega
      have T0' : decide (i < n) = true := decide_eq_true hlt
      obtain ⟨i', hi'⟩ : ∃ z, z = i + 1 := ⟨_, rfl⟩
      have x0 : IntKind.i64.wrap ((i : Int) + 1) = (i' : Int) := by have := H2.out; rw [IntKind.wrap_i64]; omega
      have hY := (HT.out.2 i hlt).2
      have HI' : Hid (i' ≤ k) := by show i' ≤ k; omega
      have HMS : Hid (n - (intOf (Value.int .i64 (i' : Int))).toNat < n - (intOf (Value.int .i64 (i : Int))).toNat) := by show _ < _; simp [intOf]; omega
      clear hi' hik
      go_wp2_with fail
      go_round
      case rel => exact ⟨i', HI', rfl⟩
      case measure => exact HMS.out
theorem rmost_none (b off n c : Nat) (X Y : Nat → Int) (y : Int) (w : World) (h1 : 1 ≤ n) (ht : TabAt w b off n X Y) (hy : y < Y 0) :
    Calls Try.prog 25 #[.slice (some ⟨b, off, none⟩) n c, .int .i64 y] w fun e w' => e = .returned (.tuple #[.int .i64 0, .bool false]) ∧ Below w.heap.size w w' := by
  have hx0 := (ht.2 0 (by omega)).1
  have hy0 := (ht.2 0 (by omega)).2
  simp only [Nat.zero_mul, Nat.add_zero] at hx0 hy0
  have hb := ht.1
  have T := decide_eq_true hy
  have T0 : (0 : Int) < (n : Int) := by omega
  clear ht hy
  go_enter Try.func25, Try.ntmps25
  go_wp2_with fail
  go_ret2
  refine ⟨rfl, ?_⟩
  (repeat' (first | assumption | exact Below.refl _ _ | exact Below.size (by assumption) | (refine Below.setCell ?_ ?_ _) | (refine Below.alloc ?_ ?_ _) | (refine Below.drew ?_) | (refine below_drewN ?_ _) | (refine Below.trans ?_ (Below.mono ‹Below _ _ _› ?_)) | omega | (simp; done) | (simp; omega) | (simp at *; omega)))

set_option maxHeartbeats 2000000 in
set_option maxRecDepth 100000 in
theorem rmost_last (b off n m c : Nat) (X Y : Nat → Int) (y : Int) (w : World) (hn : n = m + 1) (h2 : n ≤ 100) (ht : TabAt w b off n X Y) (h0 : Y 0 ≤ y) (hK : BInv Y y n m) :
    Calls Try.prog 25 #[.slice (some ⟨b, off, none⟩) n c, .int .i64 y] w fun e w' => e = .returned (.tuple #[.int .i64 (X m), .bool true]) ∧ Below w.heap.size w w' := by
  have HT := Lib.hid ht
  have HK := Lib.hid hK
  have H2 := Lib.hid h2
  have H0 := Lib.hid h0
  have H1 : Hid (1 ≤ n) := by show 1 ≤ n; omega
  have hy0 := (ht.2 0 (by omega)).2
  simp only [Nat.zero_mul, Nat.add_zero] at hy0
  have hb := ht.1
  have T : decide (y < Y 0) = false := decide_eq_false (by omega)
  have T0 : (0 : Int) < (n : Int) := by omega
  have hx1 := (HT.out.2 m (by omega)).1
  have e1 : IntKind.i64.wrap ((n : Int) - 1) = (m : Int) := by rw [IntKind.wrap_i64]; omega
  have k0 : (0 : Int) ≤ (m : Int) := by omega
  have k1 : (m : Int) < (n : Int) := by omega
  clear ht h2 hn h0 hK
  go_enter Try.func25, Try.ntmps25
  go_wp2_with fail
  go_loop [6, 7] (fun u v => ∃ (i : Nat) (L : Int), Hid ((i = 0 ∧ L = 0) ∨ BInv Y y i L) ∧ Hid (i ≤ n) ∧ u = .int .i64 L ∧ v = .int .i64 i) (fun _ v => n - (intOf v).toNat)
  case atStart => exact ⟨0, 0, .inl ⟨rfl, rfl⟩, Nat.zero_le _, rfl, rfl⟩
  case round =>
    obtain ⟨i, L, HL, Hi, rfl, rfl⟩ := hrel
    by_cases hlt : i < n
    · have T0 : decide ((i : Int) < (n : Int)) = true := by simp <;> omega
      have T0' : decide (i < n) = true := decide_eq_true hlt
      obtain ⟨i', hi'⟩ : ∃ z, z = i + 1 := ⟨_, rfl⟩
      have x0 : IntKind.i64.wrap ((i : Int) + 1) = (i' : Int) := by have := H2.out; rw [IntKind.wrap_i64]; omega
      have hY := (HT.out.2 i hlt).2
      have HI' : Hid (i' ≤ n) := by show i' ≤ n; omega
      have HMS : Hid (n - (intOf (Value.int .i64 (i' : Int))).toNat < n - (intOf (Value.int .i64 (i : Int))).toNat) := by show _ < _; simp [intOf]; omega
      by_cases hx : Y i ≤ y
      · have TY := decide_eq_true hx
        have HL' : Hid ((i' = 0 ∧ (i : Int) = 0) ∨ BInv Y y i' i) := by rw [hi']; exact .inr (binv_yes hx)
        clear hi' hx
        go_wp2_with fail
        go_round
        case rel => exact ⟨i', _, HL', HI', rfl, rfl⟩
        case measure => exact HMS.out
      · have TY := decide_eq_false hx
        have HL' : Hid ((i' = 0 ∧ L = 0) ∨ BInv Y y i' L) := by
          rw [hi']
          rcases HL.out with ⟨e, _⟩ | h
          · subst e; exact absurd H0.out hx
          · exact .inr (binv_no h (by omega))
        clear hi' hx
        go_wp2_with fail
        go_round
        case rel => exact ⟨i', _, HL', HI', rfl, rfl⟩
        case measure => exact HMS.out
    · obtain rfl : i = n := by have := Hi.out; omega
      obtain rfl : L = (m : Int) := by
        rcases HL.out with ⟨e, _⟩ | h
        · have := H1.out; omega
        · exact binv_uniq h HK.out
      have T0' : decide (i < i) = false := decide_eq_false (Nat.lt_irrefl i)
      clear hlt
      go_wp2_with fail
      go_ret2
      refine ⟨rfl, ?_⟩
      (repeat' (first | assumption | exact Below.refl _ _ | exact Below.size (by assumption) | (refine Below.setCell ?_ ?_ _) | (refine Below.alloc ?_ ?_ _) | (refine Below.drew ?_) | (refine below_drewN ?_ _) | (refine Below.trans ?_ (Below.mono ‹Below _ _ _› ?_)) | omega | (simp; done) | (simp; omega) | (simp at *; omega)))

set_option maxHeartbeats 2000000 in
set_option maxRecDepth 100000 in
theorem rmost_mid (b off n c p T D U : Nat) (X Y : Nat → Int) (y : Int) (w : World) (hv : TabOK n X Y) (ht : TabAt w b off n X Y) (hp : p + 1 < n) (h0 : Y 0 ≤ y) (hK : BInv Y y n p)
    (eT : y - Y p = (T : Int)) (eD : X (p + 1) - X p = (D : Int)) (eU : Y (p + 1) - Y p = (U : Int)) (bT : T ≤ U) (hU : 0 < U) (v : Int) (hvv : v = X p + ((T * D / U : Nat) : Int)) :
    Calls Try.prog 25 #[.slice (some ⟨b, off, none⟩) n c, .int .i64 y] w fun e w' => e = .returned (.tuple #[.int .i64 v, .bool true]) ∧ Below w.heap.size w w' := by
  have bp := in_of hv (by omega : p < n)
  have bp1 := in_of hv hp
  have h2 := hv.2.1
  obtain ⟨k, hk⟩ : ∃ k, k = p + 1 := ⟨_, rfl⟩
  obtain ⟨m, hm⟩ : ∃ m, n = m + 1 := ⟨n - 1, by omega⟩
  rw [← hk] at hp eD eU bp1
  obtain ⟨q1, q2, q3⟩ := inv_bounds (T := T) (D := D) (U := U) bT (by omega) (by omega) hU
  obtain ⟨hi, hhi⟩ : ∃ z, T * D / U = z := ⟨_, rfl⟩
  rw [hhi] at q2 hvv
  have SC := Lib.hid fun w => rfloorof T D U hi (by omega) (by omega) (by omega) hU hhi (by omega) w
  have HT := Lib.hid ht
  have HK := Lib.hid hK
  have H2 := Lib.hid h2
  have H0 := Lib.hid h0
  have H1 : Hid (1 ≤ n) := by show 1 ≤ n; omega
  have hb := ht.1
  have hpn : p < n := by omega
  have hx1 := (HT.out.2 p hpn).1
  have hy1 := (HT.out.2 p hpn).2
  have hx2 := (HT.out.2 k hp).1
  have hy2 := (HT.out.2 k hp).2
  have e1 : IntKind.i64.wrap ((p : Int) + 1) = (k : Int) := by rw [IntKind.wrap_i64]; omega
  have e2 : IntKind.i64.wrap (y - Y p) = (T : Int) := by rw [eT]; exact wrap_id (by omega) (by omega)
  have e3 : IntKind.i64.wrap (X k - X p) = (D : Int) := by rw [eD]; exact wrap_id (by omega) (by omega)
  have e4 : IntKind.i64.wrap (Y k - Y p) = (U : Int) := by rw [eU]; exact wrap_id (by omega) (by omega)
  have e5 : IntKind.i64.wrap (X p + (hi : Int)) = v := by rw [hvv]; exact wrap_id (by omega) (by omega)
  have e6 : IntKind.i64.wrap ((n : Int) - 1) = (m : Int) := by rw [IntKind.wrap_i64]; omega
  have k0 : (0 : Int) ≤ (p : Int) := by omega
  have k1 : (p : Int) < (n : Int) := by omega
  have k2 : (0 : Int) ≤ (k : Int) := by omega
  have k3 : (k : Int) < (n : Int) := by omega
  have t1 : ((p : Int) == (m : Int)) = false := by simp <;> omega
  have t2 : ¬ p = m := by omega
  have hy0 := (ht.2 0 (by omega)).2
  simp only [Nat.zero_mul, Nat.add_zero] at hy0
  have TF : decide (y < Y 0) = false := decide_eq_false (by omega)
  have TN : (0 : Int) < (n : Int) := by omega
  clear hv ht bp bp1 h2 q1 q2 q3 hhi hvv eT eD eU bT hU hk hm h0 hK
  go_enter Try.func25, Try.ntmps25
  go_wp2_with fail
  go_loop [6, 7] (fun u v => ∃ (i : Nat) (L : Int), Hid ((i = 0 ∧ L = 0) ∨ BInv Y y i L) ∧ Hid (i ≤ n) ∧ u = .int .i64 L ∧ v = .int .i64 i) (fun _ v => n - (intOf v).toNat)
  case atStart => exact ⟨0, 0, .inl ⟨rfl, rfl⟩, Nat.zero_le _, rfl, rfl⟩
  case round =>
    obtain ⟨i, L, HL, Hi, rfl, rfl⟩ := hrel
    by_cases hlt : i < n
    · have T0 : decide ((i : Int) < (n : Int)) = true := by simp <;> omega
      have T0' : decide (i < n) = true := decide_eq_true hlt
      obtain ⟨i', hi'⟩ : ∃ z, z = i + 1 := ⟨_, rfl⟩
      have x0 : IntKind.i64.wrap ((i : Int) + 1) = (i' : Int) := by have := H2.out; rw [IntKind.wrap_i64]; omega
      have hY := (HT.out.2 i hlt).2
      have HI' : Hid (i' ≤ n) := by show i' ≤ n; omega
      have HMS : Hid (n - (intOf (Value.int .i64 (i' : Int))).toNat < n - (intOf (Value.int .i64 (i : Int))).toNat) := by show _ < _; simp [intOf]; omega
      by_cases hx : Y i ≤ y
      · have TY := decide_eq_true hx
        have HL' : Hid ((i' = 0 ∧ (i : Int) = 0) ∨ BInv Y y i' i) := by rw [hi']; exact .inr (binv_yes hx)
        clear hi' hx
        go_wp2_with fail
        go_round
        case rel => exact ⟨i', _, HL', HI', rfl, rfl⟩
        case measure => exact HMS.out
      · have TY := decide_eq_false hx
        have HL' : Hid ((i' = 0 ∧ L = 0) ∨ BInv Y y i' L) := by
          rw [hi']
          rcases HL.out with ⟨e, _⟩ | h
          · subst e; exact absurd H0.out hx
          · exact .inr (binv_no h (by omega))
        clear hi' hx
        go_wp2_with fail
        go_round
        case rel => exact ⟨i', _, HL', HI', rfl, rfl⟩
        case measure => exact HMS.out
    · obtain rfl : i = n := by have := Hi.out; omega
      obtain rfl : L = (p : Int) := by
        rcases HL.out with ⟨e, _⟩ | h
        · have := H1.out; omega
        · exact binv_uniq h HK.out
      have T0' : decide (i < i) = false := decide_eq_false (Nat.lt_irrefl i)
      clear hlt
      go_upto_region 11 with fail
      go_still_tail 31, (by kernel_rfl)
      change wpList _ _ _ _ _ w.drew
      go_wp2_with (first | (go_at_call 47; (with_reducible refine (SC.out _).mono ?_); rintro e w1 ⟨rfl, hb1⟩; obtain ⟨hc1, hf1⟩ := bcell hb1; have hz1 := hb1.size; (try simp at hz1); (try simp only [heap_drew, World.heap_drewN] at hz1); (try simp only [heap_drew, World.heap_drewN] at hc1); (try simp only [heap_drew, World.heap_drewN] at hf1); (try have hs1 := Nat.lt_of_succ_le hz1); (try have hs2 := Nat.lt_of_succ_lt hs1); (try have y0 : w.heap.size < w1.heap.size := by omega); (try have y1 : w.heap.size + 1 < w1.heap.size := by omega); (try have y2 : w.heap.size + 2 < w1.heap.size := by omega); (try have yb : b < w1.heap.size := by omega)))
      all_goals (go_ret2; refine ⟨rfl, ?_⟩; (repeat' (first | assumption | exact Below.refl _ _ | exact Below.size (by assumption) | (refine Below.setCell ?_ ?_ _) | (refine Below.alloc ?_ ?_ _) | (refine Below.drew ?_) | (refine below_drewN ?_ _) | (refine Below.trans ?_ (Below.mono ‹Below _ _ _› ?_)) | omega | (simp; done) | (simp; omega) | (simp at *; omega))))
end Go.Proofs.Ytpeelnjkppdkbaa

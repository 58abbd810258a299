/- Merged: RefM, RefN. -/
import Derived.Test.YtpeelnjkppdkbaaGreatRefC
import Derived.Test.YtpeelnjkppdkbaaGreatRefD
import Derived.Test.YtpeelnjkppdkbaaGreatEnds
import Derived.RegionTactic
import Derived.Deep.RegionWith
import Derived.StillTailTactics
namespace Go.Proofs.YtpeelnjkppdkbaaGreat
open Go.RowKit
set_option linter.unusedVariables false
set_option linter.unusedSimpArgs false
set_option maxHeartbeats 1000000

def nz (n : Nat) : Bool := decide (n ≠ 0)
theorem nz_pos {n : Nat} (h : n ≠ 0) : nz n = true := decide_eq_true h
theorem nz_zero : nz 0 = false := rfl
theorem hi_zero : hi64 0 = 0 := by unfold hi64; rfl
theorem lo_zero : lo64 0 = 0 := by unfold lo64; rfl

theorem rmade_hl (H L : Int) (f : Bool) (h : (H = 0 ∧ L = 0 ∧ f = false) ∨ (H ≠ 0 ∧ f = true) ∨ (H = 0 ∧ L ≠ 0 ∧ f = true)) (w : World) :
    Calls Tryz.prog 80 #[.agg #[.int .u64 H, .int .u64 L], .bool true] w fun e w' => e = .returned (.agg #[.int .u64 H, .int .u64 L, .bool f]) ∧ Below w.heap.size w w' := by
  rcases h with ⟨rfl, rfl, rfl⟩ | ⟨h, rfl⟩ | ⟨rfl, h, rfl⟩
  · go_enter Tryz.func80, Tryz.ntmps80
    go_wp2_with fail
    go_region
    all_goals (go_wp2_with fail)
    all_goals (refine bodyPost_ret (v := .agg #[.int .u64 0, .int .u64 0, .bool false]) (by simp [results, Tryz.results80, go_sem, *]) rfl ⟨rfl, ?_⟩)
    all_goals ((repeat' (first | assumption | exact Below.refl _ _ | exact Below.size (by assumption) | (refine Below.setCell ?_ ?_ _) | (refine Below.alloc ?_ ?_ _) | (refine Below.drew ?_) | (refine below_drewN ?_ _) | (refine Below.trans ?_ (Below.mono ‹Below _ _ _› ?_)) | omega | (simp; done) | (simp; omega) | (simp at *; omega))))
  · have T : (H == 0) = false := by simp <;> omega
    go_enter Tryz.func80, Tryz.ntmps80
    go_wp2_with fail
    go_region
    all_goals (go_wp2_with fail)
    all_goals (refine bodyPost_ret (v := .agg #[.int .u64 H, .int .u64 L, .bool true]) (by simp [results, Tryz.results80, go_sem, *]) rfl ⟨rfl, ?_⟩)
    all_goals ((repeat' (first | assumption | exact Below.refl _ _ | exact Below.size (by assumption) | (refine Below.setCell ?_ ?_ _) | (refine Below.alloc ?_ ?_ _) | (refine Below.drew ?_) | (refine below_drewN ?_ _) | (refine Below.trans ?_ (Below.mono ‹Below _ _ _› ?_)) | omega | (simp; done) | (simp; omega) | (simp at *; omega))))
  · have T : (L == 0) = false := by simp <;> omega
    go_enter Tryz.func80, Tryz.ntmps80
    go_wp2_with fail
    go_region
    all_goals (go_wp2_with fail)
    all_goals (refine bodyPost_ret (v := .agg #[.int .u64 0, .int .u64 L, .bool true]) (by simp [results, Tryz.results80, go_sem, *]) rfl ⟨rfl, ?_⟩)
    all_goals ((repeat' (first | assumption | exact Below.refl _ _ | exact Below.size (by assumption) | (refine Below.setCell ?_ ?_ _) | (refine Below.alloc ?_ ?_ _) | (refine Below.drew ?_) | (refine below_drewN ?_ _) | (refine Below.trans ?_ (Below.mono ‹Below _ _ _› ?_)) | omega | (simp; done) | (simp; omega) | (simp at *; omega))))
theorem rmade_t (n : Nat) (hn : n < 340282366920938463463374607431768211456) (w : World) :
    Calls Tryz.prog 80 #[.agg #[.int .u64 (hi64 n), .int .u64 (lo64 n)], .bool true] w fun e w' => e = .returned (.agg #[.int .u64 (hi64 n), .int .u64 (lo64 n), .bool (nz n)]) ∧ Below w.heap.size w w' := by
  refine rmade_hl _ _ _ ?_ w
  by_cases h0 : n = 0
  · exact .inl ⟨by rw [h0, hi_zero], by rw [h0, lo_zero], by rw [h0]; rfl⟩
  · rw [nz_pos h0]
    by_cases h1 : hi64 n = 0
    · exact .inr (.inr ⟨h1, by unfold hi64 at h1; unfold lo64; omega, rfl⟩)
    · exact .inr (.inl ⟨h1, rfl⟩)

theorem plus_parts {a b : Nat} (h : a + b < 340282366920938463463374607431768211456) :
    IntKind.u64.wrap (lo64 a + lo64 b) = lo64 (a + b) ∧ ∃ H : Nat, IntKind.u64.wrap (hi64 a + hi64 b) = (H : Int) ∧
      ((lo64 (a + b) < lo64 a ∧ IntKind.u64.wrap ((H : Int) + 1) = hi64 (a + b)) ∨ (lo64 a ≤ lo64 (a + b) ∧ (H : Int) = hi64 (a + b))) := by
  unfold hi64 lo64
  simp only [IntKind.wrap_u64]
  refine ⟨by omega, a / 18446744073709551616 + b / 18446744073709551616, by omega, by omega⟩
theorem rplus (a b : Nat) (h : a + b < 340282366920938463463374607431768211456) (w : World) :
    Calls Tryz.prog 98 #[.agg #[.int .u64 (hi64 a), .int .u64 (lo64 a)], .agg #[.int .u64 (hi64 b), .int .u64 (lo64 b)]] w fun e w' => e = .returned (.agg #[.int .u64 (hi64 (a + b)), .int .u64 (lo64 (a + b))]) ∧ Below w.heap.size w w' := by
  obtain ⟨e1, H, e2, hH⟩ := plus_parts h
  clear h
  rcases hH with ⟨h1, e3⟩ | ⟨h1, e3⟩
  · have T : decide (lo64 (a + b) < lo64 a) = true := decide_eq_true h1
    clear h1
    go_enter Tryz.func98, Tryz.ntmps98
    go_wp2_with fail
    refine bodyPost_ret (v := .agg #[.int .u64 (hi64 (a + b)), .int .u64 (lo64 (a + b))]) (by simp [results, Tryz.results98, go_sem, *]) rfl ⟨rfl, ?_⟩
    (repeat' (first | assumption | exact Below.refl _ _ | exact Below.size (by assumption) | (refine Below.setCell ?_ ?_ _) | (refine Below.alloc ?_ ?_ _) | (refine Below.drew ?_) | (refine below_drewN ?_ _) | (refine Below.trans ?_ (Below.mono ‹Below _ _ _› ?_)) | omega | (simp; done) | (simp; omega) | (simp at *; omega)))
  · have T : decide (lo64 (a + b) < lo64 a) = false := decide_eq_false (by omega)
    rw [← e3]
    clear h1 e3
    go_enter Tryz.func98, Tryz.ntmps98
    go_wp2_with fail
    refine bodyPost_ret (v := .agg #[.int .u64 (H : Int), .int .u64 (lo64 (a + b))]) (by simp [results, Tryz.results98, go_sem, *]) rfl ⟨rfl, ?_⟩
    (repeat' (first | assumption | exact Below.refl _ _ | exact Below.size (by assumption) | (refine Below.setCell ?_ ?_ _) | (refine Below.alloc ?_ ?_ _) | (refine Below.drew ?_) | (refine below_drewN ?_ _) | (refine Below.trans ?_ (Below.mono ‹Below _ _ _› ?_)) | omega | (simp; done) | (simp; omega) | (simp at *; omega)))

theorem ropp_f (n : Nat) (hn : n < 340282366920938463463374607431768211456) (w : World) :
    Calls Tryz.prog 79 #[.agg #[.int .u64 (hi64 n), .int .u64 (lo64 n), .bool false]] w fun e w' => e = .returned (.agg #[.int .u64 (hi64 n), .int .u64 (lo64 n), .bool (nz n)]) ∧ Below w.heap.size w w' := by
  have S := Lib.hid fun w => rmade_t n hn w
  clear hn
  go_enter Tryz.func79, Tryz.ntmps79
  go_wp2_with (first | (go_at_call 80; (with_reducible refine (S.out _).mono ?_); rintro e w1 ⟨rfl, hb1⟩; obtain ⟨hc1, hf1⟩ := bcell hb1; have hz1 := hb1.size; (try simp at hz1); (try simp only [heap_drew, World.heap_drewN] at hz1); (try simp only [heap_drew, World.heap_drewN] at hc1); (try simp only [heap_drew, World.heap_drewN] at hf1); (try have hs1 := Nat.lt_of_succ_le hz1); (try have hs2 := Nat.lt_of_succ_lt hs1); (try have y0 : w.heap.size < w1.heap.size := by omega); (try have y1 : w.heap.size + 1 < w1.heap.size := by omega); (try have y2 : w.heap.size + 2 < w1.heap.size := by omega)))
  refine bodyPost_ret (v := .agg #[.int .u64 (hi64 n), .int .u64 (lo64 n), .bool (nz n)]) (by simp [results, Tryz.results79, go_sem, *]) rfl ⟨rfl, ?_⟩
  (repeat' (first | assumption | exact Below.refl _ _ | exact Below.size (by assumption) | (refine Below.setCell ?_ ?_ _) | (refine Below.alloc ?_ ?_ _) | (refine Below.drew ?_) | (refine below_drewN ?_ _) | (refine Below.trans ?_ (Below.mono ‹Below _ _ _› ?_)) | omega | (simp; done) | (simp; omega) | (simp at *; omega)))
theorem ropp_t (n : Nat) (w : World) :
    Calls Tryz.prog 79 #[.agg #[.int .u64 (hi64 n), .int .u64 (lo64 n), .bool true]] w fun e w' => e = .returned (.agg #[.int .u64 (hi64 n), .int .u64 (lo64 n), .bool false]) ∧ Below w.heap.size w w' := by
  have S := Lib.hid fun w => rmade n w
  go_enter Tryz.func79, Tryz.ntmps79
  go_wp2_with (first | (go_at_call 80; (with_reducible refine (S.out _).mono ?_); rintro e w1 ⟨rfl, hb1⟩; obtain ⟨hc1, hf1⟩ := bcell hb1; have hz1 := hb1.size; (try simp at hz1); (try simp only [heap_drew, World.heap_drewN] at hz1); (try simp only [heap_drew, World.heap_drewN] at hc1); (try simp only [heap_drew, World.heap_drewN] at hf1); (try have hs1 := Nat.lt_of_succ_le hz1); (try have hs2 := Nat.lt_of_succ_lt hs1); (try have y0 : w.heap.size < w1.heap.size := by omega); (try have y1 : w.heap.size + 1 < w1.heap.size := by omega); (try have y2 : w.heap.size + 2 < w1.heap.size := by omega)))
  refine bodyPost_ret (v := .agg #[.int .u64 (hi64 n), .int .u64 (lo64 n), .bool false]) (by simp [results, Tryz.results79, go_sem, *]) rfl ⟨rfl, ?_⟩
  (repeat' (first | assumption | exact Below.refl _ _ | exact Below.size (by assumption) | (refine Below.setCell ?_ ?_ _) | (refine Below.alloc ?_ ?_ _) | (refine Below.drew ?_) | (refine below_drewN ?_ _) | (refine Below.trans ?_ (Below.mono ‹Below _ _ _› ?_)) | omega | (simp; done) | (simp; omega) | (simp at *; omega)))
/-- The opposite of an opposite. -/
theorem ropp_nz (n : Nat) (w : World) :
    Calls Tryz.prog 79 #[.agg #[.int .u64 (hi64 n), .int .u64 (lo64 n), .bool (nz n)]] w fun e w' => e = .returned (.agg #[.int .u64 (hi64 n), .int .u64 (lo64 n), .bool false]) ∧ Below w.heap.size w w' := by
  by_cases h0 : n = 0
  · have := ropp_f n (by omega) w
    have e : nz n = false := by rw [h0]; rfl
    rw [e] at this ⊢
    exact this
  · rw [nz_pos h0]; exact ropp_t n w

theorem rdown_neg (N b q : Nat) (hN : N < 340282366920938463463374607431768211456) (hN0 : N ≠ 0) (hb0 : 0 < b) (hb : b < 9223372036854775808) (hq : q = (N + b - 1) / b) (w : World) :
    Calls Tryz.prog 96 #[.agg #[.int .u64 (hi64 N), .int .u64 (lo64 N), .bool true], .agg #[.int .u64 (hi64 b), .int .u64 (lo64 b), .bool false]] w fun e w' => e = .returned (.agg #[.int .u64 (hi64 q), .int .u64 (lo64 q), .bool (nz q)]) ∧ Below w.heap.size w w' := by
  have S1 := Lib.hid fun w => rdiv N b hN hb0 hb w
  have hqN : N / b ≤ N := Nat.div_le_self _ _
  have hm := Nat.mod_lt N hb0
  have hM : hi64 (N % b) = 0 := by unfold hi64; omega
  have hL : lo64 (N % b) = ((N % b : Nat) : Int) := by unfold lo64; omega
  have hdm := Nat.div_add_mod N b
  rw [hM, hL] at S1
  obtain ⟨Q, hQ⟩ : ∃ z, z = N / b := ⟨_, rfl⟩
  obtain ⟨M, hM'⟩ : ∃ z, z = N % b := ⟨_, rfl⟩
  rw [← hQ, ← hM'] at S1 hdm
  rw [← hQ] at hqN
  rw [← hM'] at hm
  by_cases h0 : M = 0
  · have e : q = Q := by
      rw [hq, Nat.div_eq_iff hb0]; subst h0
      rw [Nat.mul_comm] at hdm
      constructor <;> omega
    subst e
    subst h0
    have S3 := Lib.hid fun w => rmade_t q (by omega) w
    clear hq hQ hM' hM hL hN hb0 hb hm hdm hqN hN0
    go_enter Tryz.func96, Tryz.ntmps96
    go_wp2_with (first | (go_at_call 103; (with_reducible refine (S1.out _).mono ?_); rintro e w1 ⟨rfl, hb1⟩; obtain ⟨hc1, hf1⟩ := bcell hb1; have hz1 := hb1.size; (try simp at hz1); (try simp only [heap_drew, World.heap_drewN] at hz1); (try simp only [heap_drew, World.heap_drewN] at hc1); (try simp only [heap_drew, World.heap_drewN] at hf1); (try have hs1 := Nat.lt_of_succ_le hz1); (try have hs2 := Nat.lt_of_succ_lt hs1); (try have y0 : w.heap.size < w1.heap.size := by omega); (try have y1 : w.heap.size + 1 < w1.heap.size := by omega); (try have y2 : w.heap.size + 2 < w1.heap.size := by omega)) | (go_at_call 80; (with_reducible refine (S3.out _).mono ?_); rintro e w1 ⟨rfl, hb1⟩; obtain ⟨hc1, hf1⟩ := bcell hb1; have hz1 := hb1.size; (try simp at hz1); (try simp only [heap_drew, World.heap_drewN] at hz1); (try simp only [heap_drew, World.heap_drewN] at hc1); (try simp only [heap_drew, World.heap_drewN] at hf1); (try have hs1 := Nat.lt_of_succ_le hz1); (try have hs2 := Nat.lt_of_succ_lt hs1); (try have y0 : w.heap.size < w1.heap.size := by omega); (try have y1 : w.heap.size + 1 < w1.heap.size := by omega); (try have y2 : w.heap.size + 2 < w1.heap.size := by omega)))
    refine bodyPost_ret (v := .agg #[.int .u64 (hi64 q), .int .u64 (lo64 q), .bool (nz q)]) (by simp [results, Tryz.results96, go_sem, *]) rfl ⟨rfl, ?_⟩
    (repeat' (first | assumption | exact Below.refl _ _ | exact Below.size (by assumption) | (refine Below.setCell ?_ ?_ _) | (refine Below.alloc ?_ ?_ _) | (refine Below.drew ?_) | (refine below_drewN ?_ _) | (refine Below.trans ?_ (Below.mono ‹Below _ _ _› ?_)) | omega | (simp; done) | (simp; omega) | (simp at *; omega)))
  · have e : q = Q + 1 := by
      rw [hq, Nat.div_eq_iff hb0]
      rw [Nat.mul_comm] at hdm
      rw [Nat.add_mul, Nat.one_mul]
      constructor <;> omega
    have hlt : Q + 1 < 340282366920938463463374607431768211456 := by
      by_cases hb1 : b = 1
      · subst hb1; omega
      · have : Q * 2 ≤ b * Q := by rw [Nat.mul_comm]; exact Nat.mul_le_mul_right Q (by omega)
        omega
    have S2 := fun w => rplus Q 1 hlt w
    rw [show hi64 1 = 0 from by unfold hi64; rfl, show lo64 1 = 1 from by unfold lo64; rfl, ← e] at S2
    have S2 := Lib.hid S2
    have S3 := Lib.hid fun w => rmade_t q (by omega) w
    have T : ((M : Int) == 0) = false := by simp <;> omega
    clear hq hQ hM' hM hL hN hb0 hb hm hdm hqN hN0 e hlt h0
    go_enter Tryz.func96, Tryz.ntmps96
    go_wp2_with (first | (go_at_call 103; (with_reducible refine (S1.out _).mono ?_); rintro e w1 ⟨rfl, hb1⟩; obtain ⟨hc1, hf1⟩ := bcell hb1; have hz1 := hb1.size; (try simp at hz1); (try simp only [heap_drew, World.heap_drewN] at hz1); (try simp only [heap_drew, World.heap_drewN] at hc1); (try simp only [heap_drew, World.heap_drewN] at hf1); (try have hs1 := Nat.lt_of_succ_le hz1); (try have hs2 := Nat.lt_of_succ_lt hs1); (try have y0 : w.heap.size < w1.heap.size := by omega); (try have y1 : w.heap.size + 1 < w1.heap.size := by omega); (try have y2 : w.heap.size + 2 < w1.heap.size := by omega)) | ((go_at_call 98; (with_reducible refine (S2.out _).mono ?_); rintro e w2 ⟨rfl, hb2⟩; obtain ⟨hc2, hf2⟩ := bcell hb2; have hz2 := hb2.size; (try simp at hz2); (try simp only [heap_drew, World.heap_drewN] at hz2); (try simp only [heap_drew, World.heap_drewN] at hc2); (try simp only [heap_drew, World.heap_drewN] at hf2); (try have hs1 := Nat.lt_of_succ_le hz2); (try have hs2 := Nat.lt_of_succ_lt hs1); (try have y0 : w.heap.size < w2.heap.size := by omega); (try have y1 : w.heap.size + 1 < w2.heap.size := by omega); (try have y2 : w.heap.size + 2 < w2.heap.size := by omega)); (try have u0 : w1.heap.size < w2.heap.size := (by omega)); (try have u1 : w1.heap.size + 1 < w2.heap.size := (by omega)); have c0 : w2.cell? ⟨w1.heap.size, 0, none⟩ = some (.int .u64 (hi64 Q)) := (hc2 _ _ (by simp <;> omega)).trans (by simp); have c1 : w2.cell? ⟨w1.heap.size, 1, none⟩ = some (.int .u64 (lo64 Q)) := (hc2 _ _ (by simp <;> omega)).trans (by simp); have k0 : w2.frozen? ⟨w1.heap.size, 0, none⟩ = false := (hf2 _ _ (by simp <;> omega)).trans (by simp); have k1 : w2.frozen? ⟨w1.heap.size, 1, none⟩ = false := (hf2 _ _ (by simp <;> omega)).trans (by simp)) | ((go_at_call 80; (with_reducible refine (S3.out _).mono ?_); rintro e w3 ⟨rfl, hb3⟩; obtain ⟨hc3, hf3⟩ := bcell hb3; have hz3 := hb3.size; (try simp at hz3); (try simp only [heap_drew, World.heap_drewN] at hz3); (try simp only [heap_drew, World.heap_drewN] at hc3); (try simp only [heap_drew, World.heap_drewN] at hf3); (try have hs1 := Nat.lt_of_succ_le hz3); (try have hs2 := Nat.lt_of_succ_lt hs1); (try have y0 : w.heap.size < w3.heap.size := by omega); (try have y1 : w.heap.size + 1 < w3.heap.size := by omega); (try have y2 : w.heap.size + 2 < w3.heap.size := by omega))))
    refine bodyPost_ret (v := .agg #[.int .u64 (hi64 q), .int .u64 (lo64 q), .bool (nz q)]) (by simp [results, Tryz.results96, go_sem, *]) rfl ⟨rfl, ?_⟩
    (repeat' (first | assumption | exact Below.refl _ _ | exact Below.size (by assumption) | (refine Below.setCell ?_ ?_ _) | (refine Below.alloc ?_ ?_ _) | (refine Below.drew ?_) | (refine below_drewN ?_ _) | (refine Below.trans ?_ (Below.mono ‹Below _ _ _› ?_)) | omega | (simp; done) | (simp; omega) | (simp at *; omega)))
theorem rdown_nz (N b q : Nat) (hN : N < 340282366920938463463374607431768211456) (hb0 : 0 < b) (hb : b < 9223372036854775808) (hq : q = (N + b - 1) / b) (w : World) :
    Calls Tryz.prog 96 #[.agg #[.int .u64 (hi64 N), .int .u64 (lo64 N), .bool (nz N)], .agg #[.int .u64 (hi64 b), .int .u64 (lo64 b), .bool false]] w fun e w' => e = .returned (.agg #[.int .u64 (hi64 q), .int .u64 (lo64 q), .bool (nz q)]) ∧ Below w.heap.size w w' := by
  by_cases h0 : N = 0
  · have e : q = 0 := by rw [hq, h0]; exact Nat.div_eq_of_lt (by omega)
    have := rdown N b hN hb0 hb w
    rw [show N / b = 0 from by rw [h0]; exact Nat.zero_div b] at this
    rw [e]
    have e2 : nz N = false := by rw [h0]; rfl
    rw [e2]
    exact this
  · rw [nz_pos h0]; exact rdown_neg N b q hN h0 hb0 hb hq w
end Go.Proofs.YtpeelnjkppdkbaaGreat

namespace Go.Proofs.YtpeelnjkppdkbaaGreat
open Go.RowKit
set_option linter.unusedVariables false
set_option linter.unusedSimpArgs false

end Go.Proofs.YtpeelnjkppdkbaaGreat

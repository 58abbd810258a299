/- The reference's square root of an int. -/
import Derived.Test.YtchapkjloicfnaaRefC
import Derived.Test.YtchapkjloicfnaaCircle
namespace Go.Proofs.Ytchapkjloicfnaa
open Go.RowKit
set_option linter.unusedVariables false
set_option linter.unusedSimpArgs false

theorem sq_iff {n m : Nat} : m * m ≤ n ↔ m ≤ Num.isq n := by
  constructor
  · exact Num.le_isq
  · intro h
    exact Nat.le_trans (Nat.mul_le_mul h h) (Num.isq_spec n).1
set_option maxHeartbeats 1000000 in
theorem rsqrt (n : Nat) (hn : n ≤ 1152921504606846976) (w : World) :
    Calls Try.prog 42 #[.int .i64 (n : Int)] w fun e w' => e = .returned (.int .i64 (Num.isq n : Int)) ∧ Below w.heap.size w w' := by
  obtain ⟨s, hs⟩ : ∃ s, s = Num.isq n := ⟨_, rfl⟩
  have hi : ∀ m, m * m ≤ n ↔ m ≤ s := fun m => by rw [hs]; exact sq_iff
  have hb : s ≤ 1073741824 := by
    have : s < 1073741824 + 1 := by rw [hs]; exact Num.isq_lt (by omega)
    omega
  rw [← hs]
  have HI := Lib.hid hi
  have HB := Lib.hid hb
  clear hs hi hb hn
  go_enter Try.func42, Try.ntmps42
  go_wp2_with fail
  go_loop [3, 4] (fun u v => ∃ i j : Nat, Hid (i ≤ s ∧ s ≤ j ∧ j ≤ 1073741824) ∧ u = .int .i64 i ∧ v = .int .i64 j) (fun u v => (intOf v - intOf u).toNat)
  case atStart => exact ⟨0, 1073741824, ⟨Nat.zero_le _, HB.out, Nat.le_refl _⟩, rfl, rfl⟩
  case round =>
    obtain ⟨i, j, hij, rfl, rfl⟩ := hrel
    by_cases hlt : i < j
    · have hj := hij.out
      obtain ⟨z, hz⟩ : ∃ z, z = i + j := ⟨_, rfl⟩
      obtain ⟨z', hz'⟩ : ∃ z', z' = z + 1 := ⟨_, rfl⟩
      obtain ⟨m, hm⟩ : ∃ m, m = z' / 2 := ⟨_, rfl⟩
      obtain ⟨m', hm'⟩ : ∃ m', m' = m - 1 := ⟨_, rfl⟩
      have y1 : IntKind.i64.wrap ((i : Int) + (j : Int)) = (z : Int) := add_w hz (by omega)
      have y2 : IntKind.i64.wrap ((z : Int) + 1) = (z' : Int) := add1_w hz' (by omega)
      have y3 : (z' : Int) / 2 = (m : Int) := by omega
      have y4 : IntKind.i64.wrap (m : Int) = (m : Int) := nat_i (by omega)
      have y5 : IntKind.i64.wrap ((m : Int) - 1) = (m' : Int) := w_id (by omega) (by omega) (by omega)
      have hmm : m ≤ 1073741824 := by omega
      have hm2 : m * m ≤ 1073741824 * 1073741824 := Nat.mul_le_mul hmm hmm
      obtain ⟨M, hM⟩ : ∃ M, M = m * m := ⟨_, rfl⟩
      have y6 : IntKind.i64.wrap ((m : Int) * (m : Int)) = (M : Int) := mul_w hM (by omega)
      have T0 : decide (i < j) = true := decide_eq_true hlt
      by_cases hq : M ≤ n
      · have T1 : decide (M ≤ n) = true := decide_eq_true hq
        have HJ : Hid (m ≤ s ∧ s ≤ j ∧ j ≤ 1073741824) := ⟨(HI.out m).1 (by omega), hj.2.1, hj.2.2⟩
        have HMS : Hid ((intOf (Value.int .i64 (j : Int)) - intOf (Value.int .i64 (m : Int))).toNat < (intOf (Value.int .i64 (j : Int)) - intOf (Value.int .i64 (i : Int))).toNat) := by show _ < _; simp [intOf]; omega
        clear hj hz hz' hm hm' hmm hm2 hM hq hlt
        go_wp2_with fail
        go_round
        case rel => exact ⟨m, j, HJ, rfl, rfl⟩
        case measure => exact HMS.out
      · have T1 : decide (M ≤ n) = false := decide_eq_false hq
        have hms : ¬ m ≤ s := fun h => hq (by rw [hM]; exact (HI.out m).2 h)
        have HJ : Hid (i ≤ s ∧ s ≤ m' ∧ m' ≤ 1073741824) := by show _ ∧ _; omega
        have HMS : Hid ((intOf (Value.int .i64 (m' : Int)) - intOf (Value.int .i64 (i : Int))).toNat < (intOf (Value.int .i64 (j : Int)) - intOf (Value.int .i64 (i : Int))).toNat) := by show _ < _; simp [intOf]; omega
        clear hj hz hz' hm hm' hmm hm2 hM hq hlt hms
        go_wp2_with fail
        go_round
        case rel => exact ⟨i, m', HJ, rfl, rfl⟩
        case measure => exact HMS.out
    · have hj := hij.out
      have e : i = s ∧ j = s := by omega
      obtain ⟨rfl, rfl⟩ := e
      have T0 : decide (j < j) = false := decide_eq_false (by omega)
      clear hj
      go_wp2_with fail
      go_ret
      refine ⟨rfl, ?_⟩
      (repeat' (first | assumption | exact Below.refl _ _ | exact Below.size (by assumption) | (refine Below.setCell ?_ ?_ _) | (refine Below.alloc ?_ ?_ _) | (refine Below.drew ?_) | (refine below_drewN ?_ _) | (refine Below.trans ?_ (Below.mono ‹Below _ _ _› ?_)) | omega | (simp; done) | (simp; omega) | (simp at *; omega)))
end Go.Proofs.Ytchapkjloicfnaa

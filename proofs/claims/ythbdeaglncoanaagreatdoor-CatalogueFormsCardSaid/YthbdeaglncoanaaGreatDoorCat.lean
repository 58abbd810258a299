/- The numbers of 128 bits of the catalogue: products, quotients, roots. -/
import Derived.Test.YthbdeaglncoanaaGreatDoorWide
import Derived.LoopTactic
namespace Go.Proofs.YthbdeaglncoanaaGreatDoor
open Go.RowKit
set_option linter.unusedVariables false
set_option linter.unusedSimpArgs false

theorem u64_of_nat (a : Nat) (ha : a < 9223372036854775808) : IntKind.u64.wrap (a : Int) = (a : Int) := Half.wrapN _ (by omega)
theorem cproduct (a b : Nat) (ha : a < 9223372036854775808) (hb : b < 9223372036854775808) (w : World) :
    Calls Tryz.prog 37 #[.int .i64 (a : Int), .int .i64 (b : Int)] w fun e w' => e = .returned (.agg #[.int .u64 (hi64 (a * b)), .int .u64 (lo64 (a * b))]) ∧ Below w.heap.size w w' := by
  have ea := u64_of_nat a ha
  have eb := u64_of_nat b hb
  have S := Lib.hid fun w => mul64 a b (by omega) (by omega) w
  clear ha hb
  go_enter Tryz.func37, Tryz.ntmps37
  go_wp2_with (go_at_call 58; (with_reducible refine (S.out _).mono ?_); rintro e w' ⟨rfl, rfl⟩)
  refine bodyPost_ret (v := .agg #[.int .u64 (hi64 (a * b)), .int .u64 (lo64 (a * b))]) (by simp [results, Tryz.results37, go_sem]) rfl ⟨rfl, ?_⟩
  (repeat' (first | assumption | exact Below.refl _ _ | exact Below.size (by assumption) | (refine Below.setCell ?_ ?_ _) | (refine Below.alloc ?_ ?_ _) | (refine Below.drew ?_) | (refine below_drewN ?_ _) | (refine Below.trans ?_ (Below.mono ‹Below _ _ _› ?_)) | omega | (simp; done) | (simp; omega) | (simp at *; omega)))

theorem mul_parts {z n : Nat} (h : z * n < 340282366920938463463374607431768211456) :
    (z % 18446744073709551616 * n) % 18446744073709551616 = (z * n) % 18446744073709551616 ∧
    (z % 18446744073709551616 * n) / 18446744073709551616 + z / 18446744073709551616 * n = (z * n) / 18446744073709551616 ∧ z / 18446744073709551616 * n < 18446744073709551616 ∧ (z * n) / 18446744073709551616 < 18446744073709551616 := by
  have e : z * n = z / 18446744073709551616 * n * 18446744073709551616 + z % 18446744073709551616 * n := by
    have := Nat.div_add_mod' z 18446744073709551616
    rw [Nat.mul_right_comm, ← Nat.add_mul, this]
  generalize z / 18446744073709551616 * n = A at *
  generalize z % 18446744073709551616 * n = B at *
  generalize z * n = P at *
  subst e
  refine ⟨by omega, by omega, by omega, by omega⟩
theorem ctimes (z n : Nat) (hn : n < 9223372036854775808) (h : z * n < 340282366920938463463374607431768211456) (w : World) :
    Calls Tryz.prog 40 #[.agg #[.int .u64 (hi64 z), .int .u64 (lo64 z)], .int .i64 (n : Int)] w fun e w' => e = .returned (.agg #[.int .u64 (hi64 (z * n)), .int .u64 (lo64 (z * n))]) ∧ Below w.heap.size w w' := by
  have en := u64_of_nat n hn
  obtain ⟨m1, m2, m3, m4⟩ := mul_parts h
  have S : ∀ w, Calls Tryz.prog 58 #[.int .u64 (lo64 z), .int .u64 (n : Int)] w fun e w' => e = .returned (.tuple #[.int .u64 (hi64 (z % 18446744073709551616 * n)), .int .u64 (lo64 (z * n))]) ∧ w = w' := fun w => by
    have h := mul64 (z % 18446744073709551616) n (by omega) (by omega) w
    have e : lo64 (z % 18446744073709551616 * n) = lo64 (z * n) := by unfold lo64; rw [m1]
    rw [e] at h; exact h
  have S' := Lib.hid S
  have e1 : IntKind.u64.wrap (hi64 z * (n : Int)) = ((z / 18446744073709551616 * n : Nat) : Int) := by unfold hi64; rw [Half.mulN]; exact Half.wrapN _ m3
  have e2 : IntKind.u64.wrap (hi64 (z % 18446744073709551616 * n) + ((z / 18446744073709551616 * n : Nat) : Int)) = hi64 (z * n) := by
    unfold hi64; rw [Half.addN, m2]; exact Half.wrapN _ m4
  obtain ⟨A, hA⟩ : ∃ A : Nat, A = z / 18446744073709551616 * n := ⟨_, rfl⟩
  obtain ⟨B, hB⟩ : ∃ B : Int, B = hi64 (z % 18446744073709551616 * n) := ⟨_, rfl⟩
  rw [← hA] at e1 e2
  rw [← hB] at e2 S'
  clear hn h m1 m2 m3 m4 S hA hB
  go_enter Tryz.func40, Tryz.ntmps40
  go_wp2_with (go_at_call 58; (with_reducible refine (S'.out _).mono ?_); rintro e w' ⟨rfl, rfl⟩)
  refine bodyPost_ret (v := .agg #[.int .u64 (hi64 (z * n)), .int .u64 (lo64 (z * n))]) (by simp [results, Tryz.results40, go_sem]) rfl ⟨rfl, ?_⟩
  (repeat' (first | assumption | exact Below.refl _ _ | exact Below.size (by assumption) | (refine Below.setCell ?_ ?_ _) | (refine Below.alloc ?_ ?_ _) | (refine Below.drew ?_) | (refine below_drewN ?_ _) | (refine Below.trans ?_ (Below.mono ‹Below _ _ _› ?_)) | omega | (simp; done) | (simp; omega) | (simp at *; omega)))

theorem over_parts {z n : Nat} (hn : 0 < n) :
    hi64 (z / n) = ((z / 18446744073709551616 / n : Nat) : Int) ∧ lo64 (z / n) = (((z / 18446744073709551616 % n * 18446744073709551616 + z % 18446744073709551616) / n : Nat) : Int) := by
  obtain ⟨h1, _⟩ := Num.two_digits (N := z) (n := z / 18446744073709551616) (d0 := z % 18446744073709551616) (B := 18446744073709551616) hn (Nat.div_add_mod' _ _).symm
  have h2 : (z / 18446744073709551616 % n * 18446744073709551616 + z % 18446744073709551616) / n < 18446744073709551616 :=
    Num.quot_lt (Nat.mod_lt _ hn) (Nat.mod_lt _ (by omega)) rfl
  unfold hi64 lo64
  generalize (z / 18446744073709551616 % n * 18446744073709551616 + z % 18446744073709551616) / n = q at *
  generalize z / 18446744073709551616 / n = p at *
  generalize z / n = r at *
  subst h1
  constructor <;> congr 1 <;> omega
theorem cover (z n : Nat) (hn : n < 9223372036854775808) (h0 : 0 < n) (hz : z < 340282366920938463463374607431768211456) (w : World) :
    Calls Tryz.prog 41 #[.agg #[.int .u64 (hi64 z), .int .u64 (lo64 z)], .int .i64 (n : Int)] w fun e w' => e = .returned (.agg #[.int .u64 (hi64 (z / n)), .int .u64 (lo64 (z / n))]) ∧ Below w.heap.size w w' := by
  have en := u64_of_nat n hn
  obtain ⟨p1, p2⟩ := over_parts (z := z) h0
  obtain ⟨R, hR⟩ : ∃ R, R = z / 18446744073709551616 % n := ⟨_, rfl⟩
  have hRn : R < n := by rw [hR]; exact Nat.mod_lt _ h0
  obtain ⟨T, hT⟩ : ∃ T, T = R * 18446744073709551616 + z % 18446744073709551616 := ⟨_, rfl⟩
  have e1 : hi64 z / (n : Int) = hi64 (z / n) := by rw [p1]; unfold hi64; exact (Int.natCast_ediv _ _).symm
  have e2 : hi64 z % (n : Int) = (R : Int) := by rw [hR]; unfold hi64; exact (Int.natCast_emod _ _).symm
  have e3 : IntKind.u64.wrap (hi64 (z / n)) = hi64 (z / n) := by
    rw [p1]; exact Half.wrapN _ (Nat.lt_of_le_of_lt (Nat.div_le_self _ _) (by omega))
  have t1 : hi64 T = (R : Int) := by unfold hi64; rw [hT]; congr 1; omega
  have t2 : lo64 T = lo64 z := by unfold lo64; rw [hT]; congr 1; omega
  have S := fun w => div64 T n (T / n) (T % n) (by rw [hT]; omega) (by omega) rfl rfl w
  rw [t1, t2] at S
  have e4 : ((T / n : Nat) : Int) = lo64 (z / n) := by rw [p2, hT, hR]
  rw [e4] at S
  have S' := Lib.hid S
  have hz0 : 0 ≤ hi64 z := by unfold hi64; omega
  have e1t : (hi64 z).tdiv (n : Int) = hi64 (z / n) := by rw [Int.tdiv_eq_ediv_of_nonneg hz0, e1]
  have e2t : (hi64 z).tmod (n : Int) = (R : Int) := by rw [Int.tmod_eq_emod_of_nonneg hz0, e2]
  have hn1 : (1 : Int) ≤ (n : Int) := by omega
  have hn2 : ((n : Int) == 0) = false := by simp <;> omega
  have hn3 : decide (n = 0) = false := decide_eq_false (by omega)
  have hn4 : ¬ (n : Int) = 0 := by omega
  have hn5 : ¬ n = 0 := by omega
  clear hn h0 hz p1 p2 hR hRn hT t1 t2 S e4
  go_enter Tryz.func41, Tryz.ntmps41
  go_wp2_with fail
  go_quiet (fail)
  go_wp2_with (first | (go_at_call 59; (with_reducible refine (S'.out _).mono ?_); rintro e w1 ⟨rfl, nq, rfl⟩))
  refine bodyPost_ret (v := .agg #[.int .u64 (hi64 (z / n)), .int .u64 (lo64 (z / n))]) (by simp [results, Tryz.results41, go_sem]) rfl ⟨rfl, ?_⟩
  (repeat' (first | assumption | exact Below.refl _ _ | exact Below.size (by assumption) | (refine Below.setCell ?_ ?_ _) | (refine Below.alloc ?_ ?_ _) | (refine Below.drew ?_) | (refine below_drewN ?_ _) | (refine Below.trans ?_ (Below.mono ‹Below _ _ _› ?_)) | omega | (simp; done) | (simp; omega) | (simp at *; omega)))

/-- The search for a root, bit by bit: j bits are still to be asked. -/
def RInv (x j r : Nat) : Prop := r * r ≤ x ∧ x < (r + 2 ^ j) * (r + 2 ^ j) ∧ r % 2 ^ j = 0
theorem rinv_start {x : Nat} (h : x < 85070591730234615865843651857942052864) : RInv x 63 0 := by
  refine ⟨by omega, ?_, rfl⟩
  simpa using h
theorem rinv_bound {x j r : Nat} (h : x < 85070591730234615865843651857942052864) (hi : RInv x j r) : r < 9223372036854775808 :=
  Num.sq_lt (Nat.lt_of_le_of_lt hi.1 (by simpa using h))
theorem rinv_add {x j r : Nat} (hi : RInv x (j + 1) r) : r % 2 ^ j = 0 ∧ (r + 2 ^ j) % 2 ^ j = 0 := by
  have h := hi.2.2
  rw [Nat.pow_succ] at h
  have : r % 2 ^ j = 0 := by
    have h2 := Nat.mod_mul_right_mod r (2 ^ j) 2
    rw [h] at h2
    simpa using h2.symm
  exact ⟨this, by rw [Nat.add_mod_right]; exact this⟩
theorem rinv_yes {x j r : Nat} (hi : RInv x (j + 1) r) (h : (r + 2 ^ j) * (r + 2 ^ j) ≤ x) : RInv x j (r + 2 ^ j) := by
  refine ⟨h, ?_, (rinv_add hi).2⟩
  have := hi.2.1
  rw [Nat.pow_succ] at this
  rw [Nat.add_assoc]
  rwa [Nat.mul_two] at this
theorem rinv_no {x j r : Nat} (hi : RInv x (j + 1) r) (h : x < (r + 2 ^ j) * (r + 2 ^ j)) : RInv x j r := ⟨hi.1, h, (rinv_add hi).1⟩
theorem rinv_end {x r : Nat} (hi : RInv x 0 r) : r = Num.isq x := Num.isq_eq hi.1 (by simpa using hi.2.1)

set_option maxHeartbeats 2000000 in
theorem croot (x : Nat) (hx : x < 85070591730234615865843651857942052864) (w : World) :
    Calls Tryz.prog 38 #[.agg #[.int .u64 (hi64 x), .int .u64 (lo64 x)]] w fun e w' => e = .returned (.int .i64 (Num.isq x : Int)) ∧ Below w.heap.size w w' := by
  have HX := Lib.hid hx
  clear hx
  go_enter Tryz.func38, Tryz.ntmps38
  go_wp2_with fail
  go_loop [3, 4] (fun a b => ∃ j r t : Nat, Hid (RInv x j r) ∧ Hid (t = 2 ^ j / 2) ∧ Hid (j ≤ 63) ∧ a = .int .u64 r ∧ b = .int .u64 t) (fun _ b => (intOf b).toNat)
  case atStart => exact ⟨63, 0, 4611686018427387904, rinv_start HX.out, rfl, Nat.le_refl _, rfl, rfl⟩
  case round =>
    obtain ⟨j, r, t, hI, ht, hj, rfl, rfl⟩ := hrel
    cases j with
    | zero =>
      obtain rfl : t = 0 := ht.out
      have e : IntKind.i64.wrap (r : Int) = (r : Int) := by have := rinv_bound HX.out hI.out; rw [IntKind.wrap_i64]; omega
      have er := Lib.hid (rinv_end hI.out)
      go_wp2_with fail
      go_ret
      refine ⟨ret_int (by rw [er.out]), ?_⟩
      (repeat' (first | assumption | exact Below.refl _ _ | exact Below.size (by assumption) | (refine Below.setCell ?_ ?_ _) | (refine Below.alloc ?_ ?_ _) | (refine Below.drew ?_) | (refine below_drewN ?_ _) | (refine Below.trans ?_ (Below.mono ‹Below _ _ _› ?_)) | omega | (simp; done) | (simp; omega) | (simp at *; omega)))
    | succ j =>
      have et : t = 2 ^ j := by rw [ht.out, Nat.pow_succ]; omega
      have hj' : Hid (j ≤ 63) := by have := hj.out; show j ≤ 63; omega
      have tpos : 0 < t := by rw [et]; exact Nat.pow_pos (by omega)
      obtain ⟨s, hs⟩ : ∃ s, s = r + t := ⟨_, rfl⟩
      obtain ⟨t', ht2⟩ : ∃ s, s = t / 2 := ⟨_, rfl⟩
      have ht' : Hid (t' = 2 ^ j / 2) := by show t' = _; rw [ht2, et]
      have Hlt : Hid (t' = t / 2 ∧ t / 2 < t) := ⟨ht2, by omega⟩
      have hadd := rinv_add hI.out
      have hrx := rinv_bound HX.out hI.out
      have tb : t ≤ 4611686018427387904 := by rw [et]; exact Nat.pow_le_pow_right (by omega) (by have := hj.out; omega : j ≤ 62)
      have b1 : bits .or .u64 (r : Int) (t : Int) = (s : Int) := by
        rw [u64_or_nat _ _ (by omega) (by omega), et, nat_join (j + 1) _ _ hI.out.2.2 (Nat.pow_lt_pow_right (by omega) (by omega)), hs, et]
      have b2 : (t : Int) / 2 = (t' : Int) := by omega
      have T0 : decide ((0 : Int) < (t : Int)) = true := by simp <;> omega
      have T0' : decide (0 < t) = true := decide_eq_true tpos
      have SM := Lib.hid fun w => mul64 s s (by omega) (by omega) w
      have HYN : Hid ((s * s ≤ x → RInv x j s) ∧ (x < s * s → RInv x j r)) := by
        show _ ∧ _
        rw [hs, et]; exact ⟨rinv_yes hI.out, rinv_no hI.out⟩
      obtain ⟨P, hP⟩ : ∃ P, Hid (P = s * s) := ⟨_, rfl⟩
      rw [← hP.out] at SM
      have HYN' := HYN.out
      rw [← hP.out] at HYN'
      clear hs ht2 hadd hrx tb tpos et hI ht HYN
      rcases Nat.lt_trichotomy (P / 18446744073709551616) (x / 18446744073709551616) with hc | hc | hc
      · have HY : Hid (RInv x j s) := HYN'.1 (by omega)
        have T1 : decide (hi64 P < hi64 x) = true := by unfold hi64; simp <;> omega
        clear HYN' hc
        go_wp2_with (go_at_call 58; (with_reducible refine (SM.out _).mono ?_); rintro e w' ⟨rfl, rfl⟩)
        go_round
        case rel => exact ⟨j, s, t', HY, ht', hj', rfl, rfl⟩
        case measure => simp [intOf]; rw [Hlt.out.1]; exact Hlt.out.2
      · have T1 : decide (hi64 P < hi64 x) = false := by unfold hi64; simp <;> omega
        have T2 : (hi64 P == hi64 x) = true := by unfold hi64; simp <;> omega
        by_cases hd : P % 18446744073709551616 ≤ x % 18446744073709551616
        · have HY : Hid (RInv x j s) := HYN'.1 (by omega)
          have T3 : decide (lo64 P ≤ lo64 x) = true := by unfold lo64; simp <;> omega
          clear HYN' hc hd
          go_wp2_with (go_at_call 58; (with_reducible refine (SM.out _).mono ?_); rintro e w' ⟨rfl, rfl⟩)
          go_round
          case rel => exact ⟨j, s, t', HY, ht', hj', rfl, rfl⟩
          case measure => simp [intOf]; rw [Hlt.out.1]; exact Hlt.out.2
        · have HN : Hid (RInv x j r) := HYN'.2 (by omega)
          have T3 : decide (lo64 P ≤ lo64 x) = false := by unfold lo64; simp <;> omega
          clear HYN' hc hd
          go_wp2_with (go_at_call 58; (with_reducible refine (SM.out _).mono ?_); rintro e w' ⟨rfl, rfl⟩)
          go_round
          case rel => exact ⟨j, r, t', HN, ht', hj', rfl, rfl⟩
          case measure => simp [intOf]; rw [Hlt.out.1]; exact Hlt.out.2
      · have T1 : decide (hi64 P < hi64 x) = false := by unfold hi64; simp <;> omega
        have T2 : (hi64 P == hi64 x) = false := by unfold hi64; simp <;> omega
        have HN : Hid (RInv x j r) := HYN'.2 (by omega)
        clear HYN' hc
        go_wp2_with (go_at_call 58; (with_reducible refine (SM.out _).mono ?_); rintro e w' ⟨rfl, rfl⟩)
        go_round
        case rel => exact ⟨j, r, t', HN, ht', hj', rfl, rfl⟩
        case measure => simp [intOf]; rw [Hlt.out.1]; exact Hlt.out.2
end Go.Proofs.YthbdeaglncoanaaGreatDoor

/- Fractions in lowest terms are valid; they are compared, and rounded down, by the package ratio. -/
import Derived.Test.YtpeelnjkppdkbaaMake
namespace Go.Proofs.Ytpeelnjkppdkbaa
open Go.RowKit
set_option linter.unusedVariables false
set_option linter.unusedSimpArgs false

theorem drewN_add (w : World) (a b : Nat) : (w.drewN a).drewN b = w.drewN (a + b) := by simp [World.drewN, Nat.add_assoc]
set_option maxHeartbeats 1000000 in
theorem ugcd_q (a b g : Nat) (ha : a < 18446744073709551616) (hb : b < 18446744073709551616) (hg : g = Nat.gcd a b) (w : World) :
    Calls Try.prog 61 #[.int .u64 (a : Int), .int .u64 (b : Int)] w fun e w' => e = .returned (.int .u64 (g : Int)) ∧ ∃ k, w' = w.drewN k := by
  have HA := Lib.hid ha
  have HB := Lib.hid hb
  have HG := Lib.hid hg
  clear ha hb hg
  go_enter Try.func61, Try.ntmps61
  go_wp2_with fail
  go_loopw [0, 1] (fun u v wr => ∃ x y k : Nat, Hid (GInv a b x y) ∧ u = .int .u64 x ∧ v = .int .u64 y ∧ Hid (wr = w.drewN k)) (fun _ v _ => (intOf v).toNat)
  case atStart => exact ⟨a, b, 0, ⟨rfl, by omega, by omega⟩, rfl, rfl, rfl⟩
  case round =>
    obtain ⟨x, y, k, HI, rfl, rfl, HW⟩ := hrel
    by_cases hy : y = 0
    · subst hy
      have e := ginv_end HI.out
      rw [← HG.out] at e
      subst e
      go_wp2_with fail
      go_ret
      exact ⟨rfl, k, HW.out⟩
    · have t1 : ((y : Int) == 0) = false := by simp <;> omega
      have t2 : ¬ (y : Int) = 0 := by omega
      obtain ⟨h1, h2⟩ := ginv_step HI.out hy
      have e1 := tmod_nat x y
      have e3 : (x : Int) % (y : Int) = ((x % y : Nat) : Int) := rfl
      obtain ⟨r, hr⟩ : ∃ z, z = x % y := ⟨_, rfl⟩
      rw [← hr] at h1 h2 e1 e3
      have b1 : r < 18446744073709551616 := by have := HA.out; have := HB.out; have := h1.2.2; omega
      have e2 : IntKind.u64.wrap (r : Int) = (r : Int) := by rw [IntKind.wrap_u64]; omega
      have H1 := Lib.hid h1
      have HMS : Hid ((intOf (Value.int .u64 (r : Int))).toNat < (intOf (Value.int .u64 (y : Int))).toNat) := by show _ < _; simp [intOf]; omega
      clear hr h1 h2 hy b1
      go_wp2_with fail
      go_quiet (fail)
      go_wp2_with fail
      go_roundw
      case rel => exact ⟨y, r, k + nq, H1, rfl, rfl, by show _ = _; rw [HW.out, drewN_add]⟩
      case measure => exact HMS.out
theorem quiet_right {P : Program} {f : FuncId} {args : Array Value} {w : World} {n : Nat} {v : Value}
    (h : Calls P f args (w.drewN n) fun e w' => e = .returned v ∧ ∃ k, w' = (w.drewN n).drewN k) : Calls P f args (w.drewN n) fun e w'' => e = .returned v ∧ ∃ m, w'' = w.drewN m :=
  h.mono fun _ _ ⟨he, k, hm⟩ => ⟨he, n + k, by rw [hm, drewN_add]⟩
set_option maxRecDepth 100000 in
set_option maxHeartbeats 2000000 in
theorem qvalid (a : Int) (B : Nat) (h1 : 0 < B) (h2 : B ≤ 1073741824) (h3 : -1073741824 ≤ a) (h4 : a ≤ 1073741824) (hg : Nat.gcd a.natAbs B = 1) (w : World) :
    Calls Try.prog 53 #[.agg #[.int .i64 a, .int .i64 (B : Int)]] w fun e w' => e = .returned (.bool true) ∧ Below w.heap.size w w' := by
  have S1 := fun w => qsize a (by omega) (by omega) w
  obtain ⟨N, hN⟩ : ∃ N, N = a.natAbs := ⟨_, rfl⟩
  rw [← hN] at S1 hg
  have S1 := Lib.hid S1
  have S2 := Lib.hid fun w => ugcd_q N B 1 (by omega) (by omega) hg.symm w
  have e1 : IntKind.u64.wrap (B : Int) = (B : Int) := by rw [IntKind.wrap_u64]; omega
  have t1 : decide ((1 : Int) ≤ (B : Int)) = true := decide_eq_true (by omega)
  have t1' : decide (1 ≤ B) = true := decide_eq_true h1
  have t1'' : decide (0 < B) = true := decide_eq_true h1
  have t2 : decide ((B : Int) ≤ (1073741824 : Int)) = true := decide_eq_true (by omega)
  have t2' : decide (B ≤ 1073741824) = true := decide_eq_true h2
  have t3 : decide ((-1073741824 : Int) ≤ a) = true := decide_eq_true h3
  have t4 : decide (a ≤ (1073741824 : Int)) = true := decide_eq_true h4
  clear h1 h2 h3 h4 hg hN
  go_enter Try.func53, Try.ntmps53
  go_wp2_with fail
  go_quiet (first | (go_at_call 60; with_reducible exact quiet_left (S1.out _)) | (go_at_call 61; with_reducible exact quiet_right (S2.out _)))
  go_wp2_with fail
  go_ret
  refine ⟨by simp, ?_⟩
  (repeat' (first | assumption | exact Below.refl _ _ | exact Below.size (by assumption) | (refine Below.setCell ?_ ?_ _) | (refine Below.alloc ?_ ?_ _) | (refine Below.drew ?_) | (refine below_drewN ?_ _) | (refine Below.trans ?_ (Below.mono ‹Below _ _ _› ?_)) | omega | (simp; done) | (simp; omega) | (simp at *; omega)))
set_option maxRecDepth 100000 in
set_option maxHeartbeats 2000000 in
theorem qcmp (a1 a2 : Int) (B1 B2 : Nat) (h1 : 0 < B1) (h2 : B1 ≤ 1073741824) (h3 : -1073741824 ≤ a1) (h4 : a1 ≤ 1073741824) (hg1 : Nat.gcd a1.natAbs B1 = 1) (h5 : 0 < B2) (h6 : B2 ≤ 1073741824) (h7 : -1073741824 ≤ a2) (h8 : a2 ≤ 1073741824) (hg2 : Nat.gcd a2.natAbs B2 = 1) (hle : a1 * B2 ≤ a2 * B1) : ∃ s : Int, s ≤ 0 ∧ ∀ w,
    Calls Try.prog 31 #[.agg #[.int .i64 a1, .int .i64 (B1 : Int)], .agg #[.int .i64 a2, .int .i64 (B2 : Int)]] w fun e w' => e = .returned (.tuple #[.int .i64 s, .int .i64 0]) ∧ Below w.heap.size w w' := by
  have S1 := Lib.hid fun w => qvalid a1 B1 h1 h2 h3 h4 hg1 w
  have S2 := Lib.hid fun w => qvalid a2 B2 h5 h6 h7 h8 hg2 w
  have m1 := Int.mul_le_mul_of_nonneg_right h4 (show (0 : Int) ≤ (B2 : Int) by omega)
  have m2 := Int.mul_le_mul_of_nonneg_right h3 (show (0 : Int) ≤ (B2 : Int) by omega)
  have m3 := Int.mul_le_mul_of_nonneg_right h8 (show (0 : Int) ≤ (B1 : Int) by omega)
  have m4 := Int.mul_le_mul_of_nonneg_right h7 (show (0 : Int) ≤ (B1 : Int) by omega)
  obtain ⟨P, hP⟩ : ∃ z, z = a1 * (B2 : Int) := ⟨_, rfl⟩
  obtain ⟨Q, hQ⟩ : ∃ z, z = a2 * (B1 : Int) := ⟨_, rfl⟩
  have e1 : IntKind.i64.wrap (a1 * (B2 : Int)) = P := by rw [← hP, IntKind.wrap_i64]; rw [← hP] at m1 m2; omega
  have e2 : IntKind.i64.wrap (a2 * (B1 : Int)) = Q := by rw [← hQ, IntKind.wrap_i64]; rw [← hQ] at m3 m4; omega
  obtain ⟨D, hD⟩ : ∃ z, z = P - Q := ⟨_, rfl⟩
  have e3 : IntKind.i64.wrap (P - Q) = D := by rw [← hD, IntKind.wrap_i64]; rw [← hP] at m1 m2; rw [← hQ] at m3 m4; omega
  have hD0 : D ≤ 0 := by rw [← hP, ← hQ] at hle; omega
  clear m1 m2 m3 m4 hP hQ hD hle h1 h2 h3 h4 hg1 h5 h6 h7 h8 hg2
  by_cases hs : D < 0
  · have t1 := decide_eq_true hs
    refine ⟨-1, by omega, fun w => ?_⟩
    clear hs hD0
    go_enter Try.func31, Try.ntmps31
    go_wp2_with (first | (go_at_call 53; (with_reducible refine (S1.out _).mono ?_); rintro e w1 ⟨rfl, hb1⟩; obtain ⟨hc1, hf1⟩ := bcell hb1; have hz1 := hb1.size; (try simp at hz1); (try simp only [heap_drew, World.heap_drewN] at hz1); (try simp only [heap_drew, World.heap_drewN] at hc1); (try simp only [heap_drew, World.heap_drewN] at hf1); (try have hs1 := Nat.lt_of_succ_le hz1); (try have hs2 := Nat.lt_of_succ_lt hs1); (try have y0 : w.heap.size < w1.heap.size := by omega); (try have y1 : w.heap.size + 1 < w1.heap.size := by omega); (try have y2 : w.heap.size + 2 < w1.heap.size := by omega)) | (go_at_call 53; (with_reducible refine (S2.out _).mono ?_); rintro e w2 ⟨rfl, hb2⟩; obtain ⟨hc2, hf2⟩ := bcell hb2; have hz2 := hb2.size; (try simp at hz2); (try simp only [heap_drew, World.heap_drewN] at hz2); (try simp only [heap_drew, World.heap_drewN] at hc2); (try simp only [heap_drew, World.heap_drewN] at hf2); (try have hs1 := Nat.lt_of_succ_le hz2); (try have hs2 := Nat.lt_of_succ_lt hs1); (try have y0 : w.heap.size < w2.heap.size := by omega); (try have y1 : w.heap.size + 1 < w2.heap.size := by omega); (try have y2 : w.heap.size + 2 < w2.heap.size := by omega)))
    go_ret2
    refine ⟨rfl, ?_⟩
    (repeat' (first | assumption | exact Below.refl _ _ | exact Below.size (by assumption) | (refine Below.setCell ?_ ?_ _) | (refine Below.alloc ?_ ?_ _) | (refine Below.drew ?_) | (refine below_drewN ?_ _) | (refine Below.trans ?_ (Below.mono ‹Below _ _ _› ?_)) | omega | (simp; done) | (simp; omega) | (simp at *; omega)))
  · have t1 := decide_eq_false hs
    have t2 : decide ((0 : Int) < D) = false := decide_eq_false (by omega)
    refine ⟨0, by omega, fun w => ?_⟩
    clear hs hD0
    go_enter Try.func31, Try.ntmps31
    go_wp2_with (first | (go_at_call 53; (with_reducible refine (S1.out _).mono ?_); rintro e w1 ⟨rfl, hb1⟩; obtain ⟨hc1, hf1⟩ := bcell hb1; have hz1 := hb1.size; (try simp at hz1); (try simp only [heap_drew, World.heap_drewN] at hz1); (try simp only [heap_drew, World.heap_drewN] at hc1); (try simp only [heap_drew, World.heap_drewN] at hf1); (try have hs1 := Nat.lt_of_succ_le hz1); (try have hs2 := Nat.lt_of_succ_lt hs1); (try have y0 : w.heap.size < w1.heap.size := by omega); (try have y1 : w.heap.size + 1 < w1.heap.size := by omega); (try have y2 : w.heap.size + 2 < w1.heap.size := by omega)) | (go_at_call 53; (with_reducible refine (S2.out _).mono ?_); rintro e w2 ⟨rfl, hb2⟩; obtain ⟨hc2, hf2⟩ := bcell hb2; have hz2 := hb2.size; (try simp at hz2); (try simp only [heap_drew, World.heap_drewN] at hz2); (try simp only [heap_drew, World.heap_drewN] at hc2); (try simp only [heap_drew, World.heap_drewN] at hf2); (try have hs1 := Nat.lt_of_succ_le hz2); (try have hs2 := Nat.lt_of_succ_lt hs1); (try have y0 : w.heap.size < w2.heap.size := by omega); (try have y1 : w.heap.size + 1 < w2.heap.size := by omega); (try have y2 : w.heap.size + 2 < w2.heap.size := by omega)))
    go_ret2
    refine ⟨rfl, ?_⟩
    (repeat' (first | assumption | exact Below.refl _ _ | exact Below.size (by assumption) | (refine Below.setCell ?_ ?_ _) | (refine Below.alloc ?_ ?_ _) | (refine Below.drew ?_) | (refine below_drewN ?_ _) | (refine Below.trans ?_ (Below.mono ‹Below _ _ _› ?_)) | omega | (simp; done) | (simp; omega) | (simp at *; omega)))
set_option maxHeartbeats 2000000 in
theorem qfloor (a q : Int) (B : Nat) (h1 : 0 < B) (h2 : B ≤ 1073741824) (h3 : -1073741824 ≤ a) (h4 : a ≤ 1073741824) (hg1 : Nat.gcd a.natAbs B = 1) (hq : a / (B : Int) = q) (w : World) :
    Calls Try.prog 32 #[.agg #[.int .i64 a, .int .i64 (B : Int)]] w fun e w' => e = .returned (.tuple #[.int .i64 q, .int .i64 0]) ∧ Below w.heap.size w w' := by
  have S1 := Lib.hid fun w => qvalid a B h1 h2 h3 h4 hg1 w
  have hB : (0 : Int) < B := by omega
  have em := Int.mul_ediv_add_emod a (B : Int)
  have m0 := Int.emod_nonneg a (by omega : (B : Int) ≠ 0)
  have m1 := Int.emod_lt_of_pos a hB
  have tm := Int.mul_tdiv_add_tmod a (B : Int)
  obtain ⟨s, hs⟩ : ∃ z, z = Int.tmod a (B : Int) := ⟨_, rfl⟩
  obtain ⟨p, hp⟩ : ∃ z, z = Int.tdiv a (B : Int) := ⟨_, rfl⟩
  have t1 : ((B : Int) == 0) = false := by simp <;> omega
  have t2 : ¬ (B : Int) = 0 := by omega
  have t3 : ¬ B = 0 := by omega
  have t4 : decide (B = 0) = false := decide_eq_false t3
  have hpb : -1073741824 ≤ p ∧ p ≤ 1073741824 := by
    have : p.natAbs ≤ a.natAbs := by rw [hp]; exact Int.natAbs_tdiv_le_natAbs _ _
    omega
  have sl := Int.tmod_lt_of_pos a hB
  have sg := Int.lt_tmod_of_pos a hB
  rw [← hs] at sl sg
  rw [← hs, ← hp] at tm
  have e1 : IntKind.i64.wrap p = p := by rw [IntKind.wrap_i64]; omega
  have e2 : IntKind.i64.wrap s = s := by rw [IntKind.wrap_i64]; omega
  have e3 : IntKind.i64.wrap (p - 1) = p - 1 := by rw [IntKind.wrap_i64]; omega
  by_cases hn : s < 0
  · have t5 := decide_eq_true hn
    have e : q = p - 1 := by
      rw [← hq, show a = (s + B) + (p - 1) * B by rw [Int.sub_mul, Int.one_mul, Int.mul_comm p]; omega, Int.add_mul_ediv_right _ _ (by omega), Int.ediv_eq_zero_of_lt (by omega) (by omega), Int.zero_add]
    subst e
    have d1 : Int.tdiv a (B : Int) = p := hp.symm
    have d2 : Int.tmod a (B : Int) = s := hs.symm
    clear h1 h2 h3 h4 hg1 hq hB em m0 m1 tm hs hp hpb sl sg hn
    go_enter Try.func32, Try.ntmps32
    go_wp2_with (first | (go_at_call 53; (with_reducible refine (S1.out _).mono ?_); rintro e w1 ⟨rfl, hb1⟩; obtain ⟨hc1, hf1⟩ := bcell hb1; have hz1 := hb1.size; (try simp at hz1); (try simp only [heap_drew, World.heap_drewN] at hz1); (try simp only [heap_drew, World.heap_drewN] at hc1); (try simp only [heap_drew, World.heap_drewN] at hf1); (try have hs1 := Nat.lt_of_succ_le hz1); (try have hs2 := Nat.lt_of_succ_lt hs1); (try have y0 : w.heap.size < w1.heap.size := by omega); (try have y1 : w.heap.size + 1 < w1.heap.size := by omega); (try have y2 : w.heap.size + 2 < w1.heap.size := by omega)))
    go_ret2
    refine ⟨rfl, ?_⟩
    (repeat' (first | assumption | exact Below.refl _ _ | exact Below.size (by assumption) | (refine Below.setCell ?_ ?_ _) | (refine Below.alloc ?_ ?_ _) | (refine Below.drew ?_) | (refine below_drewN ?_ _) | (refine Below.trans ?_ (Below.mono ‹Below _ _ _› ?_)) | omega | (simp; done) | (simp; omega) | (simp at *; omega)))
  · have t5 := decide_eq_false hn
    have e : q = p := by
      rw [← hq, show a = s + p * B by rw [Int.mul_comm p]; omega, Int.add_mul_ediv_right _ _ (by omega), Int.ediv_eq_zero_of_lt (by omega) (by omega), Int.zero_add]
    subst e
    have d1 : Int.tdiv a (B : Int) = q := hp.symm
    have d2 : Int.tmod a (B : Int) = s := hs.symm
    clear h1 h2 h3 h4 hg1 hq hB em m0 m1 tm hs hp hpb sl sg hn
    go_enter Try.func32, Try.ntmps32
    go_wp2_with (first | (go_at_call 53; (with_reducible refine (S1.out _).mono ?_); rintro e w1 ⟨rfl, hb1⟩; obtain ⟨hc1, hf1⟩ := bcell hb1; have hz1 := hb1.size; (try simp at hz1); (try simp only [heap_drew, World.heap_drewN] at hz1); (try simp only [heap_drew, World.heap_drewN] at hc1); (try simp only [heap_drew, World.heap_drewN] at hf1); (try have hs1 := Nat.lt_of_succ_le hz1); (try have hs2 := Nat.lt_of_succ_lt hs1); (try have y0 : w.heap.size < w1.heap.size := by omega); (try have y1 : w.heap.size + 1 < w1.heap.size := by omega); (try have y2 : w.heap.size + 2 < w1.heap.size := by omega)))
    go_ret2
    refine ⟨rfl, ?_⟩
    (repeat' (first | assumption | exact Below.refl _ _ | exact Below.size (by assumption) | (refine Below.setCell ?_ ?_ _) | (refine Below.alloc ?_ ?_ _) | (refine Below.drew ?_) | (refine below_drewN ?_ _) | (refine Below.trans ?_ (Below.mono ‹Below _ _ _› ?_)) | omega | (simp; done) | (simp; omega) | (simp at *; omega)))
end Go.Proofs.Ytpeelnjkppdkbaa

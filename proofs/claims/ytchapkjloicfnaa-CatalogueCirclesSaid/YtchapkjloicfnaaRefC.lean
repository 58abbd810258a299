/- The reference's quotient, rounded down, and its root. -/
import Derived.Test.YtchapkjloicfnaaRefB
import Derived.Test.YtchapkjloicfnaaCat
import Derived.Deep.RegionWith
namespace Go.Proofs.Ytchapkjloicfnaa
open Go.RowKit
set_option linter.unusedVariables false
set_option linter.unusedSimpArgs false

theorem rdown (N b : Nat) (hN : N < 340282366920938463463374607431768211456) (hb0 : 0 < b) (hb : b < 9223372036854775808) (w : World) :
    Calls Try.prog 60 #[.agg #[.int .u64 (hi64 N), .int .u64 (lo64 N), .bool false], .agg #[.int .u64 (hi64 b), .int .u64 (lo64 b), .bool false]] w fun e w' => e = .returned (.agg #[.int .u64 (hi64 (N / b)), .int .u64 (lo64 (N / b)), .bool false]) ∧ Below w.heap.size w w' := by
  have S1 := Lib.hid fun w => rdiv N b hN hb0 hb w
  have S2 := Lib.hid fun w => rmade (N / b) w
  obtain ⟨Q, hQ⟩ : ∃ z, z = N / b := ⟨_, rfl⟩
  obtain ⟨M, hM⟩ : ∃ z, z = N % b := ⟨_, rfl⟩
  rw [← hQ] at S1 S2
  rw [← hM] at S1
  rw [← hQ]
  clear hQ hM hN hb0 hb
  go_enter Try.func60, Try.ntmps60
  go_wp2_with (first | (go_at_call 72; (with_reducible refine (S1.out _).mono ?_); rintro e w1 ⟨rfl, hb1⟩; obtain ⟨hc1, hf1⟩ := bcell hb1; have hz1 := hb1.size; (try simp at hz1); (try simp only [heap_drew, World.heap_drewN] at hz1); (try simp only [heap_drew, World.heap_drewN] at hc1); (try simp only [heap_drew, World.heap_drewN] at hf1); (try have hs1 := Nat.lt_of_succ_le hz1); (try have hs2 := Nat.lt_of_succ_lt hs1); (try have y0 : w.heap.size < w1.heap.size := by omega); (try have y1 : w.heap.size + 1 < w1.heap.size := by omega); (try have y2 : w.heap.size + 2 < w1.heap.size := by omega)) | (go_at_call 74; (with_reducible refine (S2.out _).mono ?_); rintro e w1 ⟨rfl, hb1⟩; obtain ⟨hc1, hf1⟩ := bcell hb1; have hz1 := hb1.size; (try simp at hz1); (try simp only [heap_drew, World.heap_drewN] at hz1); (try simp only [heap_drew, World.heap_drewN] at hc1); (try simp only [heap_drew, World.heap_drewN] at hf1); (try have hs1 := Nat.lt_of_succ_le hz1); (try have hs2 := Nat.lt_of_succ_lt hs1); (try have y0 : w.heap.size < w1.heap.size := by omega); (try have y1 : w.heap.size + 1 < w1.heap.size := by omega); (try have y2 : w.heap.size + 2 < w1.heap.size := by omega)))
  refine bodyPost_ret (v := .agg #[.int .u64 (hi64 Q), .int .u64 (lo64 Q), .bool false]) (by simp [results, Try.results60, go_sem, *]) rfl ⟨rfl, ?_⟩
  (repeat' (first | assumption | exact Below.refl _ _ | exact Below.size (by assumption) | (refine Below.setCell ?_ ?_ _) | (refine Below.alloc ?_ ?_ _) | (refine Below.drew ?_) | (refine below_drewN ?_ _) | (refine Below.trans ?_ (Below.mono ‹Below _ _ _› ?_)) | omega | (simp; done) | (simp; omega) | (simp at *; omega)))

theorem rfloorof (a b c q : Nat) (ha : a < 9223372036854775808) (hb : b < 9223372036854775808) (hc : c < 9223372036854775808) (hc0 : 0 < c) (hq : a * b / c = q) (hq' : q < 9223372036854775808) (w : World) :
    Calls Try.prog 80 #[.int .i64 (a : Int), .int .i64 (b : Int), .int .i64 (c : Int)] w fun e w' => e = .returned (.int .i64 (q : Int)) ∧ Below w.heap.size w w' := by
  have hp : a * b < 340282366920938463463374607431768211456 := Nat.lt_of_le_of_lt (Nat.mul_le_mul (Nat.le_of_lt ha) (Nat.le_of_lt hb)) (by decide)
  have S1 := Lib.hid fun w => rtimes a b ha hb w
  have S2 := Lib.hid fun w => rofint c hc w
  have S3 := fun w => rdown (a * b) c hp hc0 hc w
  rw [hq] at S3
  have S3 := Lib.hid S3
  have S4 := Lib.hid fun w => rint q hq' w
  clear hp ha hb hc hc0 hq hq'
  go_enter Try.func80, Try.ntmps80
  go_wp2_with (first | (go_at_call 61; (with_reducible refine (S1.out _).mono ?_); rintro e w1 ⟨rfl, hb1⟩; obtain ⟨hc1, hf1⟩ := bcell hb1; have hz1 := hb1.size; (try simp at hz1); (try simp only [heap_drew, World.heap_drewN] at hz1); (try simp only [heap_drew, World.heap_drewN] at hc1); (try simp only [heap_drew, World.heap_drewN] at hf1); (try have hs1 := Nat.lt_of_succ_le hz1); (try have hs2 := Nat.lt_of_succ_lt hs1); (try have y0 : w.heap.size < w1.heap.size := by omega); (try have y1 : w.heap.size + 1 < w1.heap.size := by omega); (try have y2 : w.heap.size + 2 < w1.heap.size := by omega)) | (go_at_call 62; (with_reducible refine (S2.out _).mono ?_); rintro e w1 ⟨rfl, hb1⟩; obtain ⟨hc1, hf1⟩ := bcell hb1; have hz1 := hb1.size; (try simp at hz1); (try simp only [heap_drew, World.heap_drewN] at hz1); (try simp only [heap_drew, World.heap_drewN] at hc1); (try simp only [heap_drew, World.heap_drewN] at hf1); (try have hs1 := Nat.lt_of_succ_le hz1); (try have hs2 := Nat.lt_of_succ_lt hs1); (try have y0 : w.heap.size < w1.heap.size := by omega); (try have y1 : w.heap.size + 1 < w1.heap.size := by omega); (try have y2 : w.heap.size + 2 < w1.heap.size := by omega)) | (go_at_call 60; (with_reducible refine (S3.out _).mono ?_); rintro e w1 ⟨rfl, hb1⟩; obtain ⟨hc1, hf1⟩ := bcell hb1; have hz1 := hb1.size; (try simp at hz1); (try simp only [heap_drew, World.heap_drewN] at hz1); (try simp only [heap_drew, World.heap_drewN] at hc1); (try simp only [heap_drew, World.heap_drewN] at hf1); (try have hs1 := Nat.lt_of_succ_le hz1); (try have hs2 := Nat.lt_of_succ_lt hs1); (try have y0 : w.heap.size < w1.heap.size := by omega); (try have y1 : w.heap.size + 1 < w1.heap.size := by omega); (try have y2 : w.heap.size + 2 < w1.heap.size := by omega)) | (go_at_call 90; (with_reducible refine (S4.out _).mono ?_); rintro e w1 ⟨rfl, hb1⟩; obtain ⟨hc1, hf1⟩ := bcell hb1; have hz1 := hb1.size; (try simp at hz1); (try simp only [heap_drew, World.heap_drewN] at hz1); (try simp only [heap_drew, World.heap_drewN] at hc1); (try simp only [heap_drew, World.heap_drewN] at hf1); (try have hs1 := Nat.lt_of_succ_le hz1); (try have hs2 := Nat.lt_of_succ_lt hs1); (try have y0 : w.heap.size < w1.heap.size := by omega); (try have y1 : w.heap.size + 1 < w1.heap.size := by omega); (try have y2 : w.heap.size + 2 < w1.heap.size := by omega)))
  go_ret
  refine ⟨rfl, ?_⟩
  (repeat' (first | assumption | exact Below.refl _ _ | exact Below.size (by assumption) | (refine Below.setCell ?_ ?_ _) | (refine Below.alloc ?_ ?_ _) | (refine Below.drew ?_) | (refine below_drewN ?_ _) | (refine Below.trans ?_ (Below.mono ‹Below _ _ _› ?_)) | omega | (simp; done) | (simp; omega) | (simp at *; omega)))

set_option maxHeartbeats 2000000 in
theorem rroot (x : Nat) (hx : x < 85070591730234615865843651857942052864) (w : World) :
    Calls Try.prog 63 #[.agg #[.int .u64 (hi64 x), .int .u64 (lo64 x)]] w fun e w' => e = .returned (.int .u64 (Num.isq x : Int)) ∧ Below w.heap.size w w' := by
  have HX := Lib.hid hx
  obtain ⟨S, hS⟩ : ∃ z, z = Num.isq x := ⟨_, rfl⟩
  rw [← hS]
  have HS := Lib.hid hS
  clear hx hS
  go_enter Try.func63, Try.ntmps63
  go_wp2_with fail
  have HM : Hid (Blk (w.alloc (Obj.cells #[Value.int IntKind.u64 (hi64 x), Value.int IntKind.u64 (lo64 x)] 87)) w.heap.size 87 #[.int .u64 (hi64 x), .int .u64 (lo64 x)] ∧ Below w.heap.size w (w.alloc (Obj.cells #[Value.int IntKind.u64 (hi64 x), Value.int IntKind.u64 (lo64 x)] 87))) := ⟨Blk.new _ _ _, by (repeat' (first | assumption | exact Below.refl _ _ | exact Below.size (by assumption) | (refine Below.setCell ?_ ?_ _) | (refine Below.alloc ?_ ?_ _) | (refine Below.drew ?_) | (refine below_drewN ?_ _) | (refine Below.trans ?_ (Below.mono ‹Below _ _ _› ?_)) | omega | (simp; done) | (simp; omega) | (simp at *; omega)))⟩
  go_loopw [3, 4] (fun u v wr => ∃ i j r : Nat, Hid (RInv x j r) ∧ Hid (i + j = 63) ∧ u = .int .u64 r ∧ v = .int .i64 i ∧ Hid (Blk wr w.heap.size 87 #[.int .u64 (hi64 x), .int .u64 (lo64 x)] ∧ Below w.heap.size w wr)) (fun _ v _ => (63 - intOf v).toNat)
  case atStart => exact ⟨0, 63, 0, rinv_start HX.out, rfl, rfl, rfl, HM⟩
  case round =>
    obtain ⟨i, j, r, HI, Hij, rfl, rfl, HMr⟩ := hrel
    have HB0 := Lib.hid HMr.out.1
    have HBW := Lib.hid HMr.out.2
    have a0 := HB0.out.cell 0
    have b0 := HB0.out.cell 1
    have c0 := HB0.out.frozen 0
    have d0 := HB0.out.frozen 1
    have l0 := HB0.out.lt
    simp only [List.getElem?_toArray, List.getElem?_cons_succ, List.getElem?_cons_zero] at a0 b0
    cases j with
    | zero =>
      obtain rfl : i = 63 := Hij.out
      obtain rfl : r = S := (rinv_end HI.out).trans HS.out.symm
      go_wp2_with fail
      go_ret
      refine ⟨rfl, ?_⟩
      (repeat' (first | assumption | exact Below.refl _ _ | exact Below.size (by assumption) | (refine Below.setCell ?_ ?_ _) | (refine Below.alloc ?_ ?_ _) | (refine Below.drew ?_) | (refine below_drewN ?_ _) | (refine Below.trans ?_ (Below.mono ‹Below _ _ _› ?_)) | omega | (simp; done) | (simp; omega) | (simp at *; omega)))
    | succ j =>
      obtain ⟨i', hi'⟩ : ∃ z, z = i + 1 := ⟨_, rfl⟩
      have hij := Hij.out
      have T0 : decide ((i : Int) < 63) = true := by simp <;> omega
      have x0 : IntKind.i64.wrap ((i : Int) + 1) = (i' : Int) := by rw [IntKind.wrap_i64]; omega
      have x1 : IntKind.i64.wrap (62 - (i : Int)) = (j : Int) := by rw [IntKind.wrap_i64]; omega
      obtain ⟨t, ht⟩ : ∃ z, z = 2 ^ j := ⟨_, rfl⟩
      obtain ⟨s, hs⟩ : ∃ z, z = r + t := ⟨_, rfl⟩
      have tb : t ≤ 4611686018427387904 := by rw [ht]; exact Nat.pow_le_pow_right (by omega) (by omega : j ≤ 62)
      have hrx := rinv_bound HX.out HI.out
      have y1 : IntKind.u64.wrap (j : Int) = (j : Int) := by rw [IntKind.wrap_u64]; omega
      have em : min j 64 = j := by omega
      have y2 : IntKind.u64.wrap (2 ^ min j 64) = (t : Int) := by
        rw [em]
        have : ((2 : Int) ^ j) = (t : Int) := by rw [ht]; simp
        rw [this, IntKind.wrap_u64]; omega
      have y3 : IntKind.u64.wrap ((r : Int) + (t : Int)) = (s : Int) := by rw [IntKind.wrap_u64]; omega
      have HYN : Hid ((s * s ≤ x → RInv x j s) ∧ (x < s * s → RInv x j r)) := by
        show _ ∧ _
        rw [hs, ht]; exact ⟨rinv_yes HI.out, rinv_no HI.out⟩
      have HIJ : Hid (i' + j = 63) := by show i' + j = 63; omega
      have HMS : Hid ((63 - intOf (Value.int .i64 (i' : Int))).toNat < (63 - intOf (Value.int .i64 (i : Int))).toNat) := by show _ < _; simp [intOf]; omega
      have SM := Lib.hid fun w => rmul s s (by omega) (by omega) w
      by_cases hl : x < s * s
      · have SL := Lib.hid fun w => rless x (s * s) true (by simp [hl]) w
        have HI' := Lib.hid (HYN.out.2 hl)
        clear hij hi' ht hs tb hrx em HYN hl
        go_wp2_with fail
        go_region_with (first | (go_at_call 75; (with_reducible refine (SM.out _).mono ?_); rintro e w1 ⟨rfl, hb1⟩; obtain ⟨hc1, hf1⟩ := bcell hb1; have hz1 := hb1.size; (try simp at hz1); (try simp only [heap_drew, World.heap_drewN] at hz1); (try simp only [heap_drew, World.heap_drewN] at hc1); (try simp only [heap_drew, World.heap_drewN] at hf1); (try have hs1 := Nat.lt_of_succ_le hz1); (try have hs2 := Nat.lt_of_succ_lt hs1); (try have y0 : w.heap.size < w1.heap.size := by omega); (try have y1 : w.heap.size + 1 < w1.heap.size := by omega); (try have y2 : w.heap.size + 2 < w1.heap.size := by omega)) | (go_at_call 77; (with_reducible refine (SL.out _).mono ?_); rintro e w2 ⟨rfl, hb2⟩; obtain ⟨hc2, hf2⟩ := bcell hb2; have hz2 := hb2.size; (try simp at hz2); (try simp only [heap_drew, World.heap_drewN] at hz2); (try simp only [heap_drew, World.heap_drewN] at hc2); (try simp only [heap_drew, World.heap_drewN] at hf2); (try have hs1 := Nat.lt_of_succ_le hz2); (try have hs2 := Nat.lt_of_succ_lt hs1); (try have y0 : w.heap.size < w2.heap.size := by omega); (try have y1 : w.heap.size + 1 < w2.heap.size := by omega); (try have y2 : w.heap.size + 2 < w2.heap.size := by omega)))
        all_goals (go_wp2_with fail)
        all_goals go_roundw
        all_goals (first | exact HMS.out | (refine ⟨i', j, r, HI', HIJ, rfl, rfl, Blk.call (Blk.call (w := wr.drew) HB0.out hb1) hb2, ?_⟩; (repeat' (first | assumption | exact Below.refl _ _ | exact Below.size (by assumption) | (refine Below.setCell ?_ ?_ _) | (refine Below.alloc ?_ ?_ _) | (refine Below.drew ?_) | (refine below_drewN ?_ _) | (refine Below.trans ?_ (Below.mono ‹Below _ _ _› ?_)) | omega | (simp; done) | (simp; omega) | (simp at *; omega)))))
      · have SL := Lib.hid fun w => rless x (s * s) false (by simp [hl]) w
        have HI' := Lib.hid (HYN.out.1 (by omega))
        clear hij hi' ht hs tb hrx em HYN hl
        go_wp2_with fail
        go_region_with (first | (go_at_call 75; (with_reducible refine (SM.out _).mono ?_); rintro e w1 ⟨rfl, hb1⟩; obtain ⟨hc1, hf1⟩ := bcell hb1; have hz1 := hb1.size; (try simp at hz1); (try simp only [heap_drew, World.heap_drewN] at hz1); (try simp only [heap_drew, World.heap_drewN] at hc1); (try simp only [heap_drew, World.heap_drewN] at hf1); (try have hs1 := Nat.lt_of_succ_le hz1); (try have hs2 := Nat.lt_of_succ_lt hs1); (try have y0 : w.heap.size < w1.heap.size := by omega); (try have y1 : w.heap.size + 1 < w1.heap.size := by omega); (try have y2 : w.heap.size + 2 < w1.heap.size := by omega)) | (go_at_call 77; (with_reducible refine (SL.out _).mono ?_); rintro e w2 ⟨rfl, hb2⟩; obtain ⟨hc2, hf2⟩ := bcell hb2; have hz2 := hb2.size; (try simp at hz2); (try simp only [heap_drew, World.heap_drewN] at hz2); (try simp only [heap_drew, World.heap_drewN] at hc2); (try simp only [heap_drew, World.heap_drewN] at hf2); (try have hs1 := Nat.lt_of_succ_le hz2); (try have hs2 := Nat.lt_of_succ_lt hs1); (try have y0 : w.heap.size < w2.heap.size := by omega); (try have y1 : w.heap.size + 1 < w2.heap.size := by omega); (try have y2 : w.heap.size + 2 < w2.heap.size := by omega)))
        all_goals (go_wp2_with fail)
        all_goals go_roundw
        all_goals (first | exact HMS.out | (refine ⟨i', j, s, HI', HIJ, rfl, rfl, Blk.call (Blk.call (w := wr.drew) HB0.out hb1) hb2, ?_⟩; (repeat' (first | assumption | exact Below.refl _ _ | exact Below.size (by assumption) | (refine Below.setCell ?_ ?_ _) | (refine Below.alloc ?_ ?_ _) | (refine Below.drew ?_) | (refine below_drewN ?_ _) | (refine Below.trans ?_ (Below.mono ‹Below _ _ _› ?_)) | omega | (simp; done) | (simp; omega) | (simp at *; omega)))))

theorem r28root (a b c q : Nat) (ha : a < 9223372036854775808) (hb : b < 9223372036854775808) (hc : c < 9223372036854775808) (hc0 : 0 < c) (hq : a * b / c = q) (hq' : q < 85070591730234615865843651857942052864) (w : World) :
    Calls Try.prog 43 #[.int .i64 (a : Int), .int .i64 (b : Int), .int .i64 (c : Int)] w fun e w' => e = .returned (.int .i64 (Num.isq q : Int)) ∧ Below w.heap.size w w' := by
  have hp : a * b < 340282366920938463463374607431768211456 := Nat.lt_of_le_of_lt (Nat.mul_le_mul (Nat.le_of_lt ha) (Nat.le_of_lt hb)) (by decide)
  have S1 := Lib.hid fun w => rtimes a b ha hb w
  have S2 := Lib.hid fun w => rofint c hc w
  have S3 := fun w => rdown (a * b) c hp hc0 hc w
  rw [hq] at S3
  have S3 := Lib.hid S3
  have S4 := fun w => rroot q hq' w
  have hi : Num.isq q < 9223372036854775808 := Num.sq_lt (Nat.lt_of_le_of_lt (Num.isq_spec q).1 hq')
  obtain ⟨S, hS⟩ : ∃ z, z = Num.isq q := ⟨_, rfl⟩
  rw [← hS] at S4 hi
  rw [← hS]
  have S4 := Lib.hid S4
  have e1 : IntKind.i64.wrap (S : Int) = (S : Int) := by rw [IntKind.wrap_i64]; omega
  clear hp ha hb hc hc0 hq hq' hi hS
  go_enter Try.func43, Try.ntmps43
  go_wp2_with (first | (go_at_call 61; (with_reducible refine (S1.out _).mono ?_); rintro e w1 ⟨rfl, hb1⟩; obtain ⟨hc1, hf1⟩ := bcell hb1; have hz1 := hb1.size; (try simp at hz1); (try simp only [heap_drew, World.heap_drewN] at hz1); (try simp only [heap_drew, World.heap_drewN] at hc1); (try simp only [heap_drew, World.heap_drewN] at hf1); (try have hs1 := Nat.lt_of_succ_le hz1); (try have hs2 := Nat.lt_of_succ_lt hs1); (try have y0 : w.heap.size < w1.heap.size := by omega); (try have y1 : w.heap.size + 1 < w1.heap.size := by omega); (try have y2 : w.heap.size + 2 < w1.heap.size := by omega)) | (go_at_call 62; (with_reducible refine (S2.out _).mono ?_); rintro e w1 ⟨rfl, hb1⟩; obtain ⟨hc1, hf1⟩ := bcell hb1; have hz1 := hb1.size; (try simp at hz1); (try simp only [heap_drew, World.heap_drewN] at hz1); (try simp only [heap_drew, World.heap_drewN] at hc1); (try simp only [heap_drew, World.heap_drewN] at hf1); (try have hs1 := Nat.lt_of_succ_le hz1); (try have hs2 := Nat.lt_of_succ_lt hs1); (try have y0 : w.heap.size < w1.heap.size := by omega); (try have y1 : w.heap.size + 1 < w1.heap.size := by omega); (try have y2 : w.heap.size + 2 < w1.heap.size := by omega)) | (go_at_call 60; (with_reducible refine (S3.out _).mono ?_); rintro e w1 ⟨rfl, hb1⟩; obtain ⟨hc1, hf1⟩ := bcell hb1; have hz1 := hb1.size; (try simp at hz1); (try simp only [heap_drew, World.heap_drewN] at hz1); (try simp only [heap_drew, World.heap_drewN] at hc1); (try simp only [heap_drew, World.heap_drewN] at hf1); (try have hs1 := Nat.lt_of_succ_le hz1); (try have hs2 := Nat.lt_of_succ_lt hs1); (try have y0 : w.heap.size < w1.heap.size := by omega); (try have y1 : w.heap.size + 1 < w1.heap.size := by omega); (try have y2 : w.heap.size + 2 < w1.heap.size := by omega)) | (go_at_call 63; (with_reducible refine (S4.out _).mono ?_); rintro e w1 ⟨rfl, hb1⟩; obtain ⟨hc1, hf1⟩ := bcell hb1; have hz1 := hb1.size; (try simp at hz1); (try simp only [heap_drew, World.heap_drewN] at hz1); (try simp only [heap_drew, World.heap_drewN] at hc1); (try simp only [heap_drew, World.heap_drewN] at hf1); (try have hs1 := Nat.lt_of_succ_le hz1); (try have hs2 := Nat.lt_of_succ_lt hs1); (try have y0 : w.heap.size < w1.heap.size := by omega); (try have y1 : w.heap.size + 1 < w1.heap.size := by omega); (try have y2 : w.heap.size + 2 < w1.heap.size := by omega)))
  go_ret
  refine ⟨rfl, ?_⟩
  (repeat' (first | assumption | exact Below.refl _ _ | exact Below.size (by assumption) | (refine Below.setCell ?_ ?_ _) | (refine Below.alloc ?_ ?_ _) | (refine Below.drew ?_) | (refine below_drewN ?_ _) | (refine Below.trans ?_ (Below.mono ‹Below _ _ _› ?_)) | omega | (simp; done) | (simp; omega) | (simp at *; omega)))
end Go.Proofs.Ytchapkjloicfnaa

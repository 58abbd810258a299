/- Merged: Reach, ReachT. -/
import Derived.Test.YtpeelnjkppdkbaaGreatWideTwo
import Derived.StillTailTactics
import Derived.Test.YtpeelnjkppdkbaaGreatFrac
namespace Go.Proofs.YtpeelnjkppdkbaaGreat
open Go.RowKit
set_option linter.unusedVariables false
set_option linter.unusedSimpArgs false

/-- The order of two integers as a sign. -/
def sg3 (x y : Int) : Int := if x < y then -1 else if y < x then 1 else 0
theorem inan (x : Int) (w : World) : Calls Tryz.prog 92 #[.int .i64 x] w fun e w' => e = .returned (.bool false) ∧ w = w' := by
  go_enter Tryz.func92, Tryz.ntmps92
  go_wp2_with fail
  go_ret
  exact ⟨by simp, rfl⟩
theorem icmp (x y : Int) (w : World) : Calls Tryz.prog 75 #[.int .i64 x, .int .i64 y] w fun e w' => e = .returned (.int .i64 (sg3 x y)) ∧ w = w' := by
  have S1 := Lib.hid fun w => inan x w
  have S2 := Lib.hid fun w => inan y w
  by_cases h1 : x < y
  · have T := decide_eq_true h1
    have e : sg3 x y = -1 := if_pos h1
    rw [e]
    clear h1 e
    go_enter Tryz.func75, Tryz.ntmps75
    go_wp2_with (first | (go_at_call 92; (with_reducible refine (S1.out _).mono ?_); rintro e w' ⟨rfl, rfl⟩) | (go_at_call 92; (with_reducible refine (S2.out _).mono ?_); rintro e w' ⟨rfl, rfl⟩))
    go_ret
    exact ⟨rfl, rfl⟩
  · have T := decide_eq_false h1
    by_cases h2 : y < x
    · have T2 := decide_eq_true h2
      have e : sg3 x y = 1 := (if_neg h1).trans (if_pos h2)
      rw [e]
      clear h1 h2 e
      go_enter Tryz.func75, Tryz.ntmps75
      go_wp2_with (first | (go_at_call 92; (with_reducible refine (S1.out _).mono ?_); rintro e w' ⟨rfl, rfl⟩) | (go_at_call 92; (with_reducible refine (S2.out _).mono ?_); rintro e w' ⟨rfl, rfl⟩))
      go_ret
      exact ⟨rfl, rfl⟩
    · have T2 := decide_eq_false h2
      have e : sg3 x y = 0 := (if_neg h1).trans (if_neg h2)
      rw [e]
      clear h1 h2 e
      go_enter Tryz.func75, Tryz.ntmps75
      go_wp2_with (first | (go_at_call 92; (with_reducible refine (S1.out _).mono ?_); rintro e w' ⟨rfl, rfl⟩) | (go_at_call 92; (with_reducible refine (S2.out _).mono ?_); rintro e w' ⟨rfl, rfl⟩))
      go_ret
      exact ⟨rfl, rfl⟩
theorem ior (a b : Int) (g : Nat) (w : World) (h0 : w.cell? ⟨g, 0, none⟩ = some (.int .i64 a)) (h1 : w.cell? ⟨g, 1, none⟩ = some (.int .i64 b)) :
    Calls Tryz.prog 74 #[.slice (some ⟨g, 0, none⟩) 2 2] w fun e w' => e = .returned (.int .i64 (if a = 0 then b else a)) ∧ w = w' := by
  obtain ⟨r, hr⟩ : ∃ r, r = if a = 0 then b else a := ⟨_, rfl⟩
  rw [← hr]
  have HR := Lib.hid hr
  clear hr
  go_enter Tryz.func74, Tryz.ntmps74
  go_wp2_with fail
  go_loop [8] (fun u => u = .int .i64 0 ∨ (Hid (a = 0) ∧ u = .int .i64 1) ∨ (Hid (a = 0 ∧ b = 0) ∧ u = .int .i64 2)) (fun u => 2 - (intOf u).toNat)
  case atStart => exact .inl rfl
  case round =>
    rcases hrel with rfl | ⟨Ha, rfl⟩ | ⟨Ha, rfl⟩
    · by_cases ha : a = 0
      · have HA := Lib.hid ha
        have t1 : (a == 0) = true := by simp [ha]
        have t2 : decide (a = 0) = true := decide_eq_true ha
        clear ha
        go_wp2_with fail
        go_round
        case rel => exact .inr (.inl ⟨HA, rfl⟩)
        case measure => simp [intOf]
      · have HA := Lib.hid ha
        have t1 : (a == 0) = false := by simp [ha]
        have t2 : decide (a = 0) = false := decide_eq_false ha
        clear ha
        go_wp2_with fail
        go_ret
        exact ⟨ret_int (by rw [HR.out, if_neg HA.out]), rfl⟩
    · by_cases hb : b = 0
      · have HB := Lib.hid hb
        have t1 : (b == 0) = true := by simp [hb]
        have t2 : decide (b = 0) = true := decide_eq_true hb
        clear hb
        go_wp2_with fail
        go_round
        case rel => exact .inr (.inr ⟨⟨Ha.out, HB.out⟩, rfl⟩)
        case measure => simp [intOf]
      · have t1 : (b == 0) = false := by simp [hb]
        have t2 : decide (b = 0) = false := decide_eq_false hb
        clear hb
        go_wp2_with fail
        go_ret
        exact ⟨ret_int (by rw [HR.out, if_pos Ha.out]), rfl⟩
    · go_wp2_with fail
      go_ret
      exact ⟨ret_int (by rw [HR.out, if_pos Ha.out.1, Ha.out.2]), rfl⟩

theorem cmp_parts (x y : Nat) : 0 ≤ (if sg3 (hiW x) (hiW y) = 0 then sg3 (loW x) (loW y) else sg3 (hiW x) (hiW y)) ↔ y ≤ x := by
  have ex : (x : Int) = hiW x * 1152921504606846976 + loW x ∧ 0 ≤ loW x ∧ loW x < 1152921504606846976 := by unfold hiW loW; omega
  have ey : (y : Int) = hiW y * 1152921504606846976 + loW y ∧ 0 ≤ loW y ∧ loW y < 1152921504606846976 := by unfold hiW loW; omega
  generalize hiW x = a at *
  generalize loW x = b at *
  generalize hiW y = c at *
  generalize loW y = d at *
  unfold sg3
  by_cases h1 : a < c
  · rw [if_pos h1, if_neg (by decide)]; constructor <;> intro h <;> omega
  · by_cases h2 : c < a
    · rw [if_neg h1, if_pos h2, if_neg (by decide)]; constructor <;> intro h <;> omega
    · rw [if_neg h1, if_neg h2, if_pos rfl]
      by_cases h3 : b < d
      · rw [if_pos h3]; constructor <;> intro h <;> omega
      · rw [if_neg h3]
        by_cases h4 : d < b
        · rw [if_pos h4]; constructor <;> intro h <;> omega
        · rw [if_neg h4]; constructor <;> intro h <;> omega
set_option maxRecDepth 100000 in
set_option maxHeartbeats 2000000 in
theorem wcmp (x y : Nat) (hx : x < 1329227995784915872903807060280344576) (hy : y < 1329227995784915872903807060280344576) : ∃ c : Int, (0 ≤ c ↔ y ≤ x) ∧ ∀ w, Calls Tryz.prog 49 #[.agg #[.int .i64 (hiW x), .int .i64 (loW x)], .agg #[.int .i64 (hiW y), .int .i64 (loW y)]] w fun e w' => e = .returned (.tuple #[.int .i64 c, .int .i64 0]) ∧ Below w.heap.size w w' := by
  refine ⟨_, cmp_parts x y, fun w => ?_⟩
  have V1 := Lib.hid fun w => wvalid x hx w
  have V2 := Lib.hid fun w => wvalid y hy w
  obtain ⟨a, ha⟩ : ∃ a, a = sg3 (hiW x) (hiW y) := ⟨_, rfl⟩
  obtain ⟨b, hb⟩ : ∃ b, b = sg3 (loW x) (loW y) := ⟨_, rfl⟩
  have C1 := Lib.hid fun w => icmp (hiW x) (hiW y) w
  have C2 := Lib.hid fun w => icmp (loW x) (loW y) w
  rw [← ha] at C1
  rw [← hb] at C2
  rw [← ha, ← hb]
  have C3 := Lib.hid fun g w h0 h1 => ior a b g w h0 h1
  obtain ⟨r, hr⟩ : ∃ r, r = if a = 0 then b else a := ⟨_, rfl⟩
  rw [← hr] at C3 ⊢
  obtain ⟨p1, hp1⟩ : ∃ z, z = hiW x := ⟨_, rfl⟩
  obtain ⟨p0, hp0⟩ : ∃ z, z = loW x := ⟨_, rfl⟩
  obtain ⟨q1, hq1⟩ : ∃ z, z = hiW y := ⟨_, rfl⟩
  obtain ⟨q0, hq0⟩ : ∃ z, z = loW y := ⟨_, rfl⟩
  rw [← hp1, ← hp0] at V1
  rw [← hq1, ← hq0] at V2
  rw [← hp1, ← hq1] at C1
  rw [← hp0, ← hq0] at C2
  rw [← hp1, ← hp0, ← hq1, ← hq0]
  clear hx hy ha hb hr hp1 hp0 hq1 hq0
  go_enter Tryz.func49, Tryz.ntmps49
  go_upto_region 3 with (first | (go_at_call 69; (with_reducible refine (V1.out _).mono ?_); rintro e w1 ⟨rfl, hb1⟩; obtain ⟨hc1, hf1⟩ := bcell hb1; have hz1 := hb1.size; (try simp at hz1); (try simp only [heap_drew, World.heap_drewN] at hz1); (try simp only [heap_drew, World.heap_drewN] at hc1); (try simp only [heap_drew, World.heap_drewN] at hf1); (try have hs1 := Nat.lt_of_succ_le hz1); (try have hs2 := Nat.lt_of_succ_lt hs1); (try have y0 : w.heap.size < w1.heap.size := by omega); (try have y1 : w.heap.size + 1 < w1.heap.size := by omega); (try have y2 : w.heap.size + 2 < w1.heap.size := by omega)) | (go_at_call 69; (with_reducible refine (V2.out _).mono ?_); rintro e w2 ⟨rfl, hb2⟩; obtain ⟨hc2, hf2⟩ := bcell hb2; have hz2 := hb2.size; (try simp at hz2); (try simp only [heap_drew, World.heap_drewN] at hz2); (try simp only [heap_drew, World.heap_drewN] at hc2); (try simp only [heap_drew, World.heap_drewN] at hf2); (try have hs1 := Nat.lt_of_succ_le hz2); (try have hs2 := Nat.lt_of_succ_lt hs1); (try have y0 : w.heap.size < w2.heap.size := by omega); (try have y1 : w.heap.size + 1 < w2.heap.size := by omega); (try have y2 : w.heap.size + 2 < w2.heap.size := by omega)))
  have c0 : w2.cell? ⟨w.heap.size, 0, none⟩ = some (.int .i64 p1) := by simp [go_sem, *]
  have c1 : w2.cell? ⟨w.heap.size, 1, none⟩ = some (.int .i64 p0) := by simp [go_sem, *]
  have c2 : w2.cell? ⟨w.heap.size + 1, 0, none⟩ = some (.int .i64 q1) := by simp [go_sem, *]
  have c3 : w2.cell? ⟨w.heap.size + 1, 1, none⟩ = some (.int .i64 q0) := by simp [go_sem, *]
  have hbw : Below w.heap.size w w2 := by (repeat' (first | assumption | exact Below.refl _ _ | exact Below.size (by assumption) | (refine Below.setCell ?_ ?_ _) | (refine Below.alloc ?_ ?_ _) | (refine Below.drew ?_) | (refine below_drewN ?_ _) | (refine Below.trans ?_ (Below.mono ‹Below _ _ _› ?_)) | omega | (simp; done) | (simp; omega) | (simp at *; omega)))
  have hsw : w.heap.size + 1 < w2.heap.size := by first | assumption | omega
  clear hc1 hf1 hc2 hf2 hb1 hb2
  refine wp_region_still_tail 10 (by kernel_rfl) (by kernel_rfl) ?_
  change wpStill _ _ w2.drew _ _ _
  simp only [List.take_succ_cons, List.take_zero, List.drop_succ_cons, List.drop_zero]
  still_step
  still_step
  still_step
  still_step
  still_call ((C1.out _).mono fun e w' h => ⟨h.1, h.2.symm⟩)
  still_step
  still_step
  still_step
  still_step
  still_call ((C2.out _).mono fun e w' h => ⟨h.1, h.2.symm⟩)
  try refine wpStill_nil ?_
  change wpList _ _ _ _ _ w2.drew
  go_wp2_with (first | (go_at_call 74; (with_reducible refine (C3.out _ _ ?_ ?_).mono ?_); (focus (first | (simp; done) | (simp [go_sem]; done))); (focus (first | (simp; done) | (simp [go_sem]; done))); rintro e w' ⟨rfl, rfl⟩))
  all_goals (go_ret2; refine ⟨rfl, ?_⟩; (repeat' (first | assumption | exact Below.refl _ _ | exact Below.size (by assumption) | (refine Below.setCell ?_ ?_ _) | (refine Below.alloc ?_ ?_ _) | (refine Below.drew ?_) | (refine below_drewN ?_ _) | (refine Below.trans ?_ (Below.mono ‹Below _ _ _› ?_)) | omega | (simp; done) | (simp; omega) | (simp at *; omega))))
end Go.Proofs.YtpeelnjkppdkbaaGreat

namespace Go.Proofs.YtpeelnjkppdkbaaGreat
open Go.RowKit
set_option linter.unusedVariables false
set_option linter.unusedSimpArgs false

/-- r / d + s / c is at least 1. -/
def car (r d s c : Nat) : Bool := decide (0 < r ∧ 0 < s ∧ c * d ≤ r * c + s * d)
theorem car_zero {r d s c : Nat} (h : r = 0 ∨ s = 0) : car r d s c = false := by
  unfold car; apply decide_eq_false; omega
theorem car_den {r d s c d' c' : Nat} (hd : r ≠ 0 → d = d') (hc : s ≠ 0 → c = c') : car r d s c = car r d' s c' := by
  by_cases h1 : r = 0
  · rw [car_zero (.inl h1), car_zero (.inl h1)]
  · by_cases h2 : s = 0
    · rw [car_zero (.inr h2), car_zero (.inr h2)]
    · rw [hd h1, hc h2]
theorem car_iff {r d s c : Nat} (h1 : 0 < r) (h2 : 0 < s) (hs : s < c) : car r d s c = decide ((c - s) * d ≤ r * c) := by
  unfold car
  have e : (c - s) * d = c * d - s * d := Nat.sub_mul _ _ _
  have h : s * d ≤ c * d := Nat.mul_le_mul_right d (Nat.le_of_lt hs)
  rw [e]
  congr 1
  apply propext
  constructor
  · rintro ⟨_, _, h3⟩; omega
  · intro h3; exact ⟨h1, h2, by omega⟩
theorem prod_lt {a b : Nat} (ha : a ≤ 2251799813685248) (hb : b ≤ 2251799813685248) : a * b < 1329227995784915872903807060280344576 :=
  Nat.lt_of_le_of_lt (Nat.mul_le_mul ha hb) (by decide)
set_option maxHeartbeats 1000000 in
theorem treach (r d s c : Nat) (hr : r < d) (hd : d ≤ 2251799813685248) (hs : s < c) (hc : c ≤ 2251799813685248) (w : World) :
    Calls Tryz.prog 24 #[.int .i64 (r : Int), .int .i64 (d : Int), .int .i64 (s : Int), .int .i64 (c : Int)] w fun e w' => e = .returned (.bool (car r d s c)) ∧ Below w.heap.size w w' := by
  by_cases h1 : r = 0
  · rw [car_zero (.inl h1)]
    subst h1
    clear hr hd hs hc
    go_enter Tryz.func24, Tryz.ntmps24
    go_wp2_with fail
    go_ret
    refine ⟨rfl, ?_⟩
    (repeat' (first | assumption | exact Below.refl _ _ | exact Below.size (by assumption) | (refine Below.setCell ?_ ?_ _) | (refine Below.alloc ?_ ?_ _) | (refine Below.drew ?_) | (refine below_drewN ?_ _) | (refine Below.trans ?_ (Below.mono ‹Below _ _ _› ?_)) | omega | (simp; done) | (simp; omega) | (simp at *; omega)))
  · by_cases h2 : s = 0
    · rw [car_zero (.inr h2)]
      subst h2
      have t1 : ((r : Int) == 0) = false := by simp <;> omega
      have t2 : decide (r = 0) = false := decide_eq_false h1
      clear hr hd hs hc
      go_enter Tryz.func24, Tryz.ntmps24
      go_wp2_with fail
      go_ret
      refine ⟨rfl, ?_⟩
      (repeat' (first | assumption | exact Below.refl _ _ | exact Below.size (by assumption) | (refine Below.setCell ?_ ?_ _) | (refine Below.alloc ?_ ?_ _) | (refine Below.drew ?_) | (refine below_drewN ?_ _) | (refine Below.trans ?_ (Below.mono ‹Below _ _ _› ?_)) | omega | (simp; done) | (simp; omega) | (simp at *; omega)))
    · rw [car_iff (by omega) (by omega) hs]
      obtain ⟨k, hk⟩ : ∃ k, k = c - s := ⟨_, rfl⟩
      rw [← hk]
      have e1 : IntKind.i64.wrap ((c : Int) - (s : Int)) = (k : Int) := by rw [IntKind.wrap_i64]; omega
      have S1 := Lib.hid fun w => wproduct r c (by omega) (by omega) (prod_lt (by omega) (by omega)) w
      have S2 := Lib.hid fun w => wproduct k d (by omega) (by omega) (prod_lt (by omega) (by omega)) w
      obtain ⟨z, hz, hcmp⟩ := wcmp (r * c) (k * d) (prod_lt (by omega) (by omega)) (prod_lt (by omega) (by omega))
      have S3 := Lib.hid hcmp
      have HZ : Hid (decide (0 ≤ z) = decide (k * d ≤ r * c)) := decide_eq_decide.2 hz
      obtain ⟨p1, hp1⟩ : ∃ z, z = hiW (r * c) := ⟨_, rfl⟩
      obtain ⟨p0, hp0⟩ : ∃ z, z = loW (r * c) := ⟨_, rfl⟩
      obtain ⟨q1, hq1⟩ : ∃ z, z = hiW (k * d) := ⟨_, rfl⟩
      obtain ⟨q0, hq0⟩ : ∃ z, z = loW (k * d) := ⟨_, rfl⟩
      rw [← hp1, ← hp0] at S1
      rw [← hq1, ← hq0] at S2
      rw [← hp1, ← hp0, ← hq1, ← hq0] at S3
      have t1 : ((r : Int) == 0) = false := by simp <;> omega
      have t2 : decide (r = 0) = false := decide_eq_false h1
      have t3 : ((s : Int) == 0) = false := by simp <;> omega
      have t4 : decide (s = 0) = false := decide_eq_false h2
      clear hr hd hs hc h1 h2 hk hz hcmp hp1 hp0 hq1 hq0
      go_enter Tryz.func24, Tryz.ntmps24
      go_wp2_with (first | (go_at_call 46; (with_reducible refine (S1.out _).mono ?_); rintro e w1 ⟨rfl, hb1⟩; obtain ⟨hc1, hf1⟩ := bcell hb1; have hz1 := hb1.size; (try simp at hz1); (try simp only [heap_drew, World.heap_drewN] at hz1); (try simp only [heap_drew, World.heap_drewN] at hc1); (try simp only [heap_drew, World.heap_drewN] at hf1); (try have hs1 := Nat.lt_of_succ_le hz1); (try have hs2 := Nat.lt_of_succ_lt hs1); (try have y0 : w.heap.size < w1.heap.size := by omega); (try have y1 : w.heap.size + 1 < w1.heap.size := by omega); (try have y2 : w.heap.size + 2 < w1.heap.size := by omega)) | (go_at_call 46; (with_reducible refine (S2.out _).mono ?_); rintro e w2 ⟨rfl, hb2⟩; obtain ⟨hc2, hf2⟩ := bcell hb2; have hz2 := hb2.size; (try simp at hz2); (try simp only [heap_drew, World.heap_drewN] at hz2); (try simp only [heap_drew, World.heap_drewN] at hc2); (try simp only [heap_drew, World.heap_drewN] at hf2); (try have hs1 := Nat.lt_of_succ_le hz2); (try have hs2 := Nat.lt_of_succ_lt hs1); (try have y0 : w.heap.size < w2.heap.size := by omega); (try have y1 : w.heap.size + 1 < w2.heap.size := by omega); (try have y2 : w.heap.size + 2 < w2.heap.size := by omega)) | (go_at_call 49; (with_reducible refine (S3.out _).mono ?_); rintro e w3 ⟨rfl, hb3⟩; obtain ⟨hc3, hf3⟩ := bcell hb3; have hz3 := hb3.size; (try simp at hz3); (try simp only [heap_drew, World.heap_drewN] at hz3); (try simp only [heap_drew, World.heap_drewN] at hc3); (try simp only [heap_drew, World.heap_drewN] at hf3); (try have hs1 := Nat.lt_of_succ_le hz3); (try have hs2 := Nat.lt_of_succ_lt hs1); (try have y0 : w.heap.size < w3.heap.size := by omega); (try have y1 : w.heap.size + 1 < w3.heap.size := by omega); (try have y2 : w.heap.size + 2 < w3.heap.size := by omega)))
      go_ret
      refine ⟨ret_bool HZ.out, ?_⟩
      (repeat' (first | assumption | exact Below.refl _ _ | exact Below.size (by assumption) | (refine Below.setCell ?_ ?_ _) | (refine Below.alloc ?_ ?_ _) | (refine Below.drew ?_) | (refine below_drewN ?_ _) | (refine Below.trans ?_ (Below.mono ‹Below _ _ _› ?_)) | omega | (simp; done) | (simp; omega) | (simp at *; omega)))
end Go.Proofs.YtpeelnjkppdkbaaGreat

/- The curve of a pump in the reference of networks. -/
import Derived.Test.YtdgfljkhnifemaaGreatDoorNetS
namespace Go.Proofs.YtdgfljkhnifemaaGreatDoor
open Go.RowKit
set_option linter.unusedVariables false
set_option linter.unusedSimpArgs false

theorem tab_mono {n : Nat} {X Y : Nat → Int} (h : TabOK n X Y) : ∀ j, j < n → ∀ i, i ≤ j → X i ≤ X j ∧ Y i ≤ Y j
  | 0, _, i, hi => by
    obtain rfl : i = 0 := by omega
    exact ⟨Int.le_refl _, Int.le_refl _⟩
  | j + 1, hj, i, hi => by
    rcases Nat.lt_or_ge i (j + 1) with g | g
    · obtain ⟨a, b⟩ := tab_mono h j (by omega) i (by omega)
      obtain ⟨_, _, h3⟩ := h.2.2 (j + 1) hj
      have h4 := h3 (by omega)
      have e : j + 1 - 1 = j := by omega
      rw [e] at h4
      exact ⟨by omega, by omega⟩
    · obtain rfl : i = j + 1 := by omega
      exact ⟨Int.le_refl _, Int.le_refl _⟩
def endsP (n : Nat) (X Y : Nat → Int) : Prop := 0 ≤ X 0 ∧ X (n - 1) ≤ 4194304 ∧ 0 ≤ Y 0 ∧ Y (n - 1) ≤ 1099511627776
theorem pump_ends {n : Nat} {X Y : Nat → Int} (h : TabOK n X Y) : pumpP n X Y ↔ endsP n X Y := by
  have hn := h.1
  unfold pumpP endsP
  constructor
  · rintro ⟨_, h2⟩
    have a := h2 0 (by omega)
    have b := h2 (n - 1) (by omega)
    omega
  · intro h2
    refine ⟨h, fun k hk => ?_⟩
    have a := tab_mono h k hk 0 (by omega)
    have b := tab_mono h (n - 1) (by omega) k (by omega)
    omega
set_option maxHeartbeats 2000000 in
theorem rcurve (A : Option Addr) (n c : Nat) (X Y : Nat → Int) (w : World) (ht : TabIn w A n X Y) :
    Calls Tryz.prog 125 #[.slice A n c] w fun e w' => e = .returned (.bool (boolOf (pumpP n X Y))) ∧ Below w.heap.size w w' := by
  have C := Lib.hid fun w ht => rvalid_any A n c X Y w ht
  obtain ⟨f, hf⟩ : ∃ f, Hid (f = boolOf (pumpP n X Y)) := ⟨_, rfl⟩
  rw [← hf.out]
  by_cases hv : TabOK n X Y
  · rcases ht.2 with h0 | ⟨b, off, rfl, hT⟩
    · exact absurd hv.1 (by omega)
    · have HT := Lib.hid ht
      have HE := Lib.hid (pump_ends hv)
      obtain ⟨m, rfl⟩ : ∃ m, n = m + 1 := ⟨n - 1, by have := hv.1; omega⟩
      have hb := hT.1
      have f0 := (hT.2 0 (by omega)).1
      have f1 := (hT.2 0 (by omega)).2
      have l0 := (hT.2 m (by omega)).1
      have l1 := (hT.2 m (by omega)).2
      have e2 : IntKind.i64.wrap ((m : Int) + 1 - 1) = (m : Int) := by rw [IntKind.wrap_i64]; have := hv.2.1; omega
      have e3 : IntKind.i64.wrap (m : Int) = (m : Int) := by rw [IntKind.wrap_i64]; have := hv.2.1; omega
      have tv := tabB_true hv
      simp only [Nat.zero_mul, Nat.add_zero] at f0 f1
      obtain ⟨x0, hx0⟩ : ∃ z, z = X 0 := ⟨_, rfl⟩
      obtain ⟨x1, hx1⟩ : ∃ z, z = X m := ⟨_, rfl⟩
      obtain ⟨y0, hy0⟩ : ∃ z, z = Y 0 := ⟨_, rfl⟩
      obtain ⟨y1, hy1⟩ : ∃ z, z = Y m := ⟨_, rfl⟩
      have HEE : Hid (pumpP (m + 1) X Y ↔ (0 ≤ x0 ∧ x1 ≤ 4194304 ∧ 0 ≤ y0 ∧ y1 ≤ 1099511627776)) := by rw [hx0, hx1, hy0, hy1]; exact HE.out
      rw [← hx0] at f0
      rw [← hx1] at l0
      rw [← hy0] at f1
      rw [← hy1] at l1
      clear ht hT hx0 hx1 hy0 hy1 HE hv
      by_cases g0 : 0 ≤ x0
      case neg =>
        have t0 : decide (0 ≤ x0) = false := decide_eq_false g0
        obtain rfl : f = false := by rw [hf.out]; exact boolOf_false fun h => g0 (by have h := HEE.out.1 h; exact h.1)
        clear hf g0
        go_enter Tryz.func125, Tryz.ntmps125
        go_wp2_with (first | (go_at_call 128; (with_reducible refine (C.out _ HT.out).mono ?_); rintro e w1 ⟨rfl, hb1⟩; obtain ⟨hc1, hf1⟩ := bcell hb1; have hz1 := hb1.size; (try simp at hz1); (try simp only [heap_drew, World.heap_drewN] at hz1); (try simp only [heap_drew, World.heap_drewN] at hc1); (try simp only [heap_drew, World.heap_drewN] at hf1); (try have hs1 := Nat.lt_of_succ_le hz1); (try have hs2 := Nat.lt_of_succ_lt hs1); (try have y0 : w.heap.size < w1.heap.size := by omega); (try have y1 : w.heap.size + 1 < w1.heap.size := by omega); (try have y2 : w.heap.size + 2 < w1.heap.size := by omega); (try have yb : b < w1.heap.size := by omega)))
        go_ret
        refine ⟨rfl, ?_⟩
        (repeat' (first | assumption | exact Below.refl _ _ | exact Below.size (by assumption) | (refine Below.setCell ?_ ?_ _) | (refine Below.alloc ?_ ?_ _) | (refine Below.drew ?_) | (refine below_drewN ?_ _) | (refine Below.trans ?_ (Below.mono ‹Below _ _ _› ?_)) | omega | (simp; done) | (simp; omega) | (simp at *; omega)))
      have t0 : decide (0 ≤ x0) = true := decide_eq_true g0
      by_cases g1 : x1 ≤ 4194304
      case neg =>
        have t1 : decide (x1 ≤ 4194304) = false := decide_eq_false g1
        obtain rfl : f = false := by rw [hf.out]; exact boolOf_false fun h => g1 (by have h := HEE.out.1 h; exact h.2.1)
        clear hf g0 g1
        go_enter Tryz.func125, Tryz.ntmps125
        go_wp2_with (first | (go_at_call 128; (with_reducible refine (C.out _ HT.out).mono ?_); rintro e w1 ⟨rfl, hb1⟩; obtain ⟨hc1, hf1⟩ := bcell hb1; have hz1 := hb1.size; (try simp at hz1); (try simp only [heap_drew, World.heap_drewN] at hz1); (try simp only [heap_drew, World.heap_drewN] at hc1); (try simp only [heap_drew, World.heap_drewN] at hf1); (try have hs1 := Nat.lt_of_succ_le hz1); (try have hs2 := Nat.lt_of_succ_lt hs1); (try have y0 : w.heap.size < w1.heap.size := by omega); (try have y1 : w.heap.size + 1 < w1.heap.size := by omega); (try have y2 : w.heap.size + 2 < w1.heap.size := by omega); (try have yb : b < w1.heap.size := by omega)))
        go_ret
        refine ⟨rfl, ?_⟩
        (repeat' (first | assumption | exact Below.refl _ _ | exact Below.size (by assumption) | (refine Below.setCell ?_ ?_ _) | (refine Below.alloc ?_ ?_ _) | (refine Below.drew ?_) | (refine below_drewN ?_ _) | (refine Below.trans ?_ (Below.mono ‹Below _ _ _› ?_)) | omega | (simp; done) | (simp; omega) | (simp at *; omega)))
      have t1 : decide (x1 ≤ 4194304) = true := decide_eq_true g1
      by_cases g2 : 0 ≤ y0
      case neg =>
        have t2 : decide (0 ≤ y0) = false := decide_eq_false g2
        obtain rfl : f = false := by rw [hf.out]; exact boolOf_false fun h => g2 (by have h := HEE.out.1 h; exact h.2.2.1)
        clear hf g0 g1 g2
        go_enter Tryz.func125, Tryz.ntmps125
        go_wp2_with (first | (go_at_call 128; (with_reducible refine (C.out _ HT.out).mono ?_); rintro e w1 ⟨rfl, hb1⟩; obtain ⟨hc1, hf1⟩ := bcell hb1; have hz1 := hb1.size; (try simp at hz1); (try simp only [heap_drew, World.heap_drewN] at hz1); (try simp only [heap_drew, World.heap_drewN] at hc1); (try simp only [heap_drew, World.heap_drewN] at hf1); (try have hs1 := Nat.lt_of_succ_le hz1); (try have hs2 := Nat.lt_of_succ_lt hs1); (try have y0 : w.heap.size < w1.heap.size := by omega); (try have y1 : w.heap.size + 1 < w1.heap.size := by omega); (try have y2 : w.heap.size + 2 < w1.heap.size := by omega); (try have yb : b < w1.heap.size := by omega)))
        go_ret
        refine ⟨rfl, ?_⟩
        (repeat' (first | assumption | exact Below.refl _ _ | exact Below.size (by assumption) | (refine Below.setCell ?_ ?_ _) | (refine Below.alloc ?_ ?_ _) | (refine Below.drew ?_) | (refine below_drewN ?_ _) | (refine Below.trans ?_ (Below.mono ‹Below _ _ _› ?_)) | omega | (simp; done) | (simp; omega) | (simp at *; omega)))
      have t2 : decide (0 ≤ y0) = true := decide_eq_true g2
      by_cases g3 : y1 ≤ 1099511627776
      case neg =>
        have t3 : decide (y1 ≤ 1099511627776) = false := decide_eq_false g3
        obtain rfl : f = false := by rw [hf.out]; exact boolOf_false fun h => g3 (by have h := HEE.out.1 h; exact h.2.2.2)
        clear hf g0 g1 g2 g3
        go_enter Tryz.func125, Tryz.ntmps125
        go_wp2_with (first | (go_at_call 128; (with_reducible refine (C.out _ HT.out).mono ?_); rintro e w1 ⟨rfl, hb1⟩; obtain ⟨hc1, hf1⟩ := bcell hb1; have hz1 := hb1.size; (try simp at hz1); (try simp only [heap_drew, World.heap_drewN] at hz1); (try simp only [heap_drew, World.heap_drewN] at hc1); (try simp only [heap_drew, World.heap_drewN] at hf1); (try have hs1 := Nat.lt_of_succ_le hz1); (try have hs2 := Nat.lt_of_succ_lt hs1); (try have y0 : w.heap.size < w1.heap.size := by omega); (try have y1 : w.heap.size + 1 < w1.heap.size := by omega); (try have y2 : w.heap.size + 2 < w1.heap.size := by omega); (try have yb : b < w1.heap.size := by omega)))
        go_ret
        refine ⟨rfl, ?_⟩
        (repeat' (first | assumption | exact Below.refl _ _ | exact Below.size (by assumption) | (refine Below.setCell ?_ ?_ _) | (refine Below.alloc ?_ ?_ _) | (refine Below.drew ?_) | (refine below_drewN ?_ _) | (refine Below.trans ?_ (Below.mono ‹Below _ _ _› ?_)) | omega | (simp; done) | (simp; omega) | (simp at *; omega)))
      have t3 : decide (y1 ≤ 1099511627776) = true := decide_eq_true g3
      obtain rfl : f = true := by rw [hf.out]; exact boolOf_true (HEE.out.2 ⟨g0, g1, g2, g3⟩)
      clear hf g0 g1 g2 g3
      go_enter Tryz.func125, Tryz.ntmps125
      go_wp2_with (first | (go_at_call 128; (with_reducible refine (C.out _ HT.out).mono ?_); rintro e w1 ⟨rfl, hb1⟩; obtain ⟨hc1, hf1⟩ := bcell hb1; have hz1 := hb1.size; (try simp at hz1); (try simp only [heap_drew, World.heap_drewN] at hz1); (try simp only [heap_drew, World.heap_drewN] at hc1); (try simp only [heap_drew, World.heap_drewN] at hf1); (try have hs1 := Nat.lt_of_succ_le hz1); (try have hs2 := Nat.lt_of_succ_lt hs1); (try have y0 : w.heap.size < w1.heap.size := by omega); (try have y1 : w.heap.size + 1 < w1.heap.size := by omega); (try have y2 : w.heap.size + 2 < w1.heap.size := by omega); (try have yb : b < w1.heap.size := by omega)))
      go_ret
      refine ⟨rfl, ?_⟩
      (repeat' (first | assumption | exact Below.refl _ _ | exact Below.size (by assumption) | (refine Below.setCell ?_ ?_ _) | (refine Below.alloc ?_ ?_ _) | (refine Below.drew ?_) | (refine below_drewN ?_ _) | (refine Below.trans ?_ (Below.mono ‹Below _ _ _› ?_)) | omega | (simp; done) | (simp; omega) | (simp at *; omega)))
  · obtain rfl : f = false := by rw [hf.out]; exact boolOf_false fun h => hv h.1
    have tv := tabB_false hv
    have HT := Lib.hid ht
    clear ht
    go_enter Tryz.func125, Tryz.ntmps125
    go_wp2_with (first | (go_at_call 128; (with_reducible refine (C.out _ HT.out).mono ?_); rintro e w1 ⟨rfl, hb1⟩; obtain ⟨hc1, hf1⟩ := bcell hb1; have hz1 := hb1.size; (try simp at hz1); (try simp only [heap_drew, World.heap_drewN] at hz1); (try simp only [heap_drew, World.heap_drewN] at hc1); (try simp only [heap_drew, World.heap_drewN] at hf1); (try have hs1 := Nat.lt_of_succ_le hz1); (try have hs2 := Nat.lt_of_succ_lt hs1); (try have y0 : w.heap.size < w1.heap.size := by omega); (try have y1 : w.heap.size + 1 < w1.heap.size := by omega); (try have y2 : w.heap.size + 2 < w1.heap.size := by omega)))
    go_ret
    refine ⟨rfl, ?_⟩
    (repeat' (first | assumption | exact Below.refl _ _ | exact Below.size (by assumption) | (refine Below.setCell ?_ ?_ _) | (refine Below.alloc ?_ ?_ _) | (refine Below.drew ?_) | (refine below_drewN ?_ _) | (refine Below.trans ?_ (Below.mono ‹Below _ _ _› ?_)) | omega | (simp; done) | (simp; omega) | (simp at *; omega)))
end Go.Proofs.YtdgfljkhnifemaaGreatDoor

/- Whether a section is valid, by the package and by the reference. -/
import Derived.Test.YthbdeaglncoanaaGreatDoorTabTwo
import Derived.Test.YthbdeaglncoanaaGreatDoorName
namespace Go.Proofs.YthbdeaglncoanaaGreatDoor
open Go.RowKit
set_option linter.unusedVariables false
set_option linter.unusedSimpArgs false

def CurveOK (n : Nat) (X Y : Nat → Int) (h most : Int) : Prop := TabOK n X Y ∧ X 0 = 0 ∧ Y 0 = 0 ∧ X (n - 1) = h ∧ Y (n - 1) ≤ most
noncomputable def boolOf (p : Prop) : Bool := @decide p (Classical.propDecidable p)
theorem boolOf_true {p : Prop} (h : p) : boolOf p = true := by unfold boolOf; exact @decide_eq_true _ (Classical.propDecidable _) h
theorem boolOf_false {p : Prop} (h : ¬ p) : boolOf p = false := by unfold boolOf; exact @decide_eq_false _ (Classical.propDecidable _) h
theorem boolOf_eq {b : Bool} {p : Prop} (h : b = true ↔ p) : b = boolOf p := by
  by_cases hp : p
  · rw [boolOf_true hp, h.2 hp]
  · rw [boolOf_false hp]; cases b with
    | false => rfl
    | true => exact absurd (h.1 rfl) hp
theorem of_boolOf {p : Prop} (h : boolOf p = true) : p := Classical.byContradiction fun hn => by rw [boolOf_false hn] at h; cases h
theorem not_boolOf {p : Prop} (h : boolOf p = false) : ¬ p := fun hp => by rw [boolOf_true hp] at h; cases h

set_option maxHeartbeats 1000000 in
theorem ccurve (A : Option Addr) (n c : Nat) (X Y : Nat → Int) (h most : Int) (w : World) (ht : TabIn w A n X Y) :
    Calls Tryz.prog 48 #[.slice A n c, .int .i64 h, .int .i64 most] w fun e w' => e = .returned (.bool (boolOf (CurveOK n X Y h most))) ∧ Below w.heap.size w w' := by
  have C := Lib.hid fun w ht => tvalid_any A n c X Y w ht
  obtain ⟨f, hf⟩ : ∃ f, Hid (f = boolOf (CurveOK n X Y h most)) := ⟨_, rfl⟩
  rw [← hf.out]
  by_cases hv : TabOK n X Y
  · rcases ht.2 with h0 | ⟨b, off, rfl, hT⟩
    · exact absurd hv.1 (by omega)
    · have HT := Lib.hid ht
      obtain ⟨m, rfl⟩ : ∃ m, n = m + 1 := ⟨n - 1, by have := hv.1; omega⟩
      have hb := hT.1
      have f0 := (hT.2 0 (by omega)).1
      have f1 := (hT.2 0 (by omega)).2
      have l0 := (hT.2 m (by omega)).1
      have l1 := (hT.2 m (by omega)).2
      have e2 : IntKind.i64.wrap ((m : Int) + 1 - 1) = (m : Int) := by rw [IntKind.wrap_i64]; have := hv.2.1; omega
      have e3 : IntKind.i64.wrap (m : Int) = (m : Int) := by rw [IntKind.wrap_i64]; have := hv.2.1; omega
      have tv := tabB_true hv
      simp only [Nat.zero_mul, Nat.add_zero] at f0 f1
      clear ht hT
      go_enter Tryz.func48, Tryz.ntmps48
      go_wp2_with (first | (go_at_call 44; (with_reducible refine (C.out _ HT.out).mono ?_); rintro e w1 ⟨rfl, hb1⟩; obtain ⟨hc1, hf1⟩ := bcell hb1; have hz1 := hb1.size; (try simp at hz1); (try simp only [heap_drew, World.heap_drewN] at hz1); (try simp only [heap_drew, World.heap_drewN] at hc1); (try simp only [heap_drew, World.heap_drewN] at hf1); (try have hs1 := Nat.lt_of_succ_le hz1); (try have hs2 := Nat.lt_of_succ_lt hs1); (try have y0 : w.heap.size < w1.heap.size := by omega); (try have y1 : w.heap.size + 1 < w1.heap.size := by omega); (try have y2 : w.heap.size + 2 < w1.heap.size := by omega); (try have yb : b < w1.heap.size := by omega)))
      all_goals (go_ret; refine ⟨ret_bool (by rw [hf.out]; exact boolOf_eq (by simp [CurveOK, *])), ?_⟩; (repeat' (first | assumption | exact Below.refl _ _ | exact Below.size (by assumption) | (refine Below.setCell ?_ ?_ _) | (refine Below.alloc ?_ ?_ _) | (refine Below.drew ?_) | (refine below_drewN ?_ _) | (refine Below.trans ?_ (Below.mono ‹Below _ _ _› ?_)) | omega | (simp; done) | (simp; omega) | (simp at *; omega))))
  · obtain rfl : f = false := by rw [hf.out]; exact boolOf_false fun h => hv h.1
    have tv := tabB_false hv
    have HT := Lib.hid ht
    clear ht
    go_enter Tryz.func48, Tryz.ntmps48
    go_wp2_with (first | (go_at_call 44; (with_reducible refine (C.out _ HT.out).mono ?_); rintro e w1 ⟨rfl, hb1⟩; obtain ⟨hc1, hf1⟩ := bcell hb1; have hz1 := hb1.size; (try simp at hz1); (try simp only [heap_drew, World.heap_drewN] at hz1); (try simp only [heap_drew, World.heap_drewN] at hc1); (try simp only [heap_drew, World.heap_drewN] at hf1); (try have hs1 := Nat.lt_of_succ_le hz1); (try have hs2 := Nat.lt_of_succ_lt hs1); (try have y0 : w.heap.size < w1.heap.size := by omega); (try have y1 : w.heap.size + 1 < w1.heap.size := by omega); (try have y2 : w.heap.size + 2 < w1.heap.size := by omega)))
    go_ret
    refine ⟨rfl, ?_⟩
    (repeat' (first | assumption | exact Below.refl _ _ | exact Below.size (by assumption) | (refine Below.setCell ?_ ?_ _) | (refine Below.alloc ?_ ?_ _) | (refine Below.drew ?_) | (refine below_drewN ?_ _) | (refine Below.trans ?_ (Below.mono ‹Below _ _ _› ?_)) | omega | (simp; done) | (simp; omega) | (simp at *; omega)))
set_option maxHeartbeats 1000000 in
theorem rfits (A : Option Addr) (n c : Nat) (X Y : Nat → Int) (h most : Int) (w : World) (ht : TabIn w A n X Y) :
    Calls Tryz.prog 43 #[.slice A n c, .int .i64 h, .int .i64 most] w fun e w' => e = .returned (.bool (boolOf (CurveOK n X Y h most))) ∧ Below w.heap.size w w' := by
  have C := Lib.hid fun w ht => rvalid_any A n c X Y w ht
  obtain ⟨f, hf⟩ : ∃ f, Hid (f = boolOf (CurveOK n X Y h most)) := ⟨_, rfl⟩
  rw [← hf.out]
  by_cases hv : TabOK n X Y
  · rcases ht.2 with h0 | ⟨b, off, rfl, hT⟩
    · exact absurd hv.1 (by omega)
    · have HT := Lib.hid ht
      obtain ⟨m, rfl⟩ : ∃ m, n = m + 1 := ⟨n - 1, by have := hv.1; omega⟩
      have hb := hT.1
      have f0 := (hT.2 0 (by omega)).1
      have f1 := (hT.2 0 (by omega)).2
      have l0 := (hT.2 m (by omega)).1
      have l1 := (hT.2 m (by omega)).2
      have e2 : IntKind.i64.wrap ((m : Int) + 1 - 1) = (m : Int) := by rw [IntKind.wrap_i64]; have := hv.2.1; omega
      have e3 : IntKind.i64.wrap (m : Int) = (m : Int) := by rw [IntKind.wrap_i64]; have := hv.2.1; omega
      have tv := tabB_true hv
      simp only [Nat.zero_mul, Nat.add_zero] at f0 f1
      clear ht hT
      go_enter Tryz.func43, Tryz.ntmps43
      go_wp2_with (first | (go_at_call 62; (with_reducible refine (C.out _ HT.out).mono ?_); rintro e w1 ⟨rfl, hb1⟩; obtain ⟨hc1, hf1⟩ := bcell hb1; have hz1 := hb1.size; (try simp at hz1); (try simp only [heap_drew, World.heap_drewN] at hz1); (try simp only [heap_drew, World.heap_drewN] at hc1); (try simp only [heap_drew, World.heap_drewN] at hf1); (try have hs1 := Nat.lt_of_succ_le hz1); (try have hs2 := Nat.lt_of_succ_lt hs1); (try have y0 : w.heap.size < w1.heap.size := by omega); (try have y1 : w.heap.size + 1 < w1.heap.size := by omega); (try have y2 : w.heap.size + 2 < w1.heap.size := by omega); (try have yb : b < w1.heap.size := by omega)))
      all_goals (go_ret; refine ⟨ret_bool (by rw [hf.out]; exact boolOf_eq (by simp [CurveOK, *])), ?_⟩; (repeat' (first | assumption | exact Below.refl _ _ | exact Below.size (by assumption) | (refine Below.setCell ?_ ?_ _) | (refine Below.alloc ?_ ?_ _) | (refine Below.drew ?_) | (refine below_drewN ?_ _) | (refine Below.trans ?_ (Below.mono ‹Below _ _ _› ?_)) | omega | (simp; done) | (simp; omega) | (simp at *; omega))))
  · obtain rfl : f = false := by rw [hf.out]; exact boolOf_false fun h => hv h.1
    have tv := tabB_false hv
    have HT := Lib.hid ht
    clear ht
    go_enter Tryz.func43, Tryz.ntmps43
    go_wp2_with (first | (go_at_call 62; (with_reducible refine (C.out _ HT.out).mono ?_); rintro e w1 ⟨rfl, hb1⟩; obtain ⟨hc1, hf1⟩ := bcell hb1; have hz1 := hb1.size; (try simp at hz1); (try simp only [heap_drew, World.heap_drewN] at hz1); (try simp only [heap_drew, World.heap_drewN] at hc1); (try simp only [heap_drew, World.heap_drewN] at hf1); (try have hs1 := Nat.lt_of_succ_le hz1); (try have hs2 := Nat.lt_of_succ_lt hs1); (try have y0 : w.heap.size < w1.heap.size := by omega); (try have y1 : w.heap.size + 1 < w1.heap.size := by omega); (try have y2 : w.heap.size + 2 < w1.heap.size := by omega)))
    go_ret
    refine ⟨rfl, ?_⟩
    (repeat' (first | assumption | exact Below.refl _ _ | exact Below.size (by assumption) | (refine Below.setCell ?_ ?_ _) | (refine Below.alloc ?_ ?_ _) | (refine Below.drew ?_) | (refine below_drewN ?_ _) | (refine Below.trans ?_ (Below.mono ‹Below _ _ _› ?_)) | omega | (simp; done) | (simp; omega) | (simp at *; omega)))
end Go.Proofs.YthbdeaglncoanaaGreatDoor

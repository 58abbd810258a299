/- Whether a section is valid, or large, by the package and by the reference. -/
import Derived.Test.YthbdeaglncoanaaGreatDoorCurve
namespace Go.Proofs.YthbdeaglncoanaaGreatDoor
open Go.RowKit
set_option linter.unusedVariables false
set_option linter.unusedSimpArgs false

def SecOK (nm : List UInt8) (h p : Int) (na : Nat) (AX AY : Nat → Int) (nc : Nat) (CX CY : Nat → Int) : Prop :=
  nameB nm = true ∧ 1 ≤ h ∧ h ≤ 32768 ∧ 0 ≤ p ∧ p ≤ 1073741824 ∧ CurveOK na AX AY h 1073741824 ∧ CurveOK nc CX CY h 1099511627776
theorem iff_boolOf {b : Bool} {p : Prop} (h : b = boolOf p) : p ↔ b = true := by
  rw [h]; exact ⟨boolOf_true, of_boolOf⟩

set_option maxHeartbeats 1000000 in
theorem cvalid (nm : ByteArray) (h p : Int) (A C : Option Addr) (na ca nc cc : Nat) (AX AY CX CY : Nat → Int) (w : World) (hn : nm.size ≤ maxLen) (hA : TabIn w A na AX AY) (hC : TabIn w C nc CX CY) :
    Calls Tryz.prog 27 #[.agg #[.string nm, .int .i64 h, .int .i64 p, .slice A na ca, .slice C nc cc]] w fun e w' => e = .returned (.bool (boolOf (SecOK nm.data.toList h p na AX AY nc CX CY))) ∧ Below w.heap.size w w' := by
  have SA := Lib.hid fun w ht => ccurve A na ca AX AY h 1073741824 w ht
  have SC := Lib.hid fun w ht => ccurve C nc cc CX CY h 1099511627776 w ht
  have S1 := Lib.hid fun w => disname nm hn w
  obtain ⟨f, hf⟩ : ∃ f, Hid (f = boolOf (SecOK nm.data.toList h p na AX AY nc CX CY)) := ⟨_, rfl⟩
  obtain ⟨ka, hka⟩ : ∃ f, f = boolOf (CurveOK na AX AY h 1073741824) := ⟨_, rfl⟩
  obtain ⟨kc, hkc⟩ : ∃ f, f = boolOf (CurveOK nc CX CY h 1099511627776) := ⟨_, rfl⟩
  obtain ⟨kn, hkn⟩ : ∃ f, f = nameB nm.data.toList := ⟨_, rfl⟩
  rw [← hka] at SA
  rw [← hkc] at SC
  rw [← hkn] at S1
  rw [← hf.out]
  have HKA := Lib.hid (iff_boolOf hka)
  have HKC := Lib.hid (iff_boolOf hkc)
  have HKN := Lib.hid hkn.symm
  have HA := Lib.hid hA
  have HC := Lib.hid hC
  clear hka hkc hkn hA hC hn
  go_enter Tryz.func27, Tryz.ntmps27
  go_wp2_with (first | (go_at_call 36; (with_reducible refine (S1.out _).mono ?_); rintro e w' ⟨rfl, rfl⟩) | (go_at_call 48; (with_reducible refine (SA.out _ ?_).mono ?_); (focus (exact HA.out.below (Nat.le_refl _) (by (repeat' (first | assumption | exact Below.refl _ _ | exact Below.size (by assumption) | (refine Below.setCell ?_ ?_ _) | (refine Below.alloc ?_ ?_ _) | (refine Below.drew ?_) | (refine below_drewN ?_ _) | (refine Below.trans ?_ (Below.mono ‹Below _ _ _› ?_)) | omega | (simp; done) | (simp; omega) | (simp at *; omega)))))); rintro e w1 ⟨rfl, hb1⟩; obtain ⟨hc1, hf1⟩ := bcell hb1; have hz1 := hb1.size; (try simp at hz1); (try simp only [heap_drew, World.heap_drewN] at hz1); (try simp only [heap_drew, World.heap_drewN] at hc1); (try simp only [heap_drew, World.heap_drewN] at hf1); (try have hs1 := Nat.lt_of_succ_le hz1); (try have hs2 := Nat.lt_of_succ_lt hs1); (try have y0 : w.heap.size < w1.heap.size := by omega); (try have y1 : w.heap.size + 1 < w1.heap.size := by omega); (try have y2 : w.heap.size + 2 < w1.heap.size := by omega)) | (go_at_call 48; (with_reducible refine (SC.out _ ?_).mono ?_); (focus (exact HC.out.below (Nat.le_refl _) (by (repeat' (first | assumption | exact Below.refl _ _ | exact Below.size (by assumption) | (refine Below.setCell ?_ ?_ _) | (refine Below.alloc ?_ ?_ _) | (refine Below.drew ?_) | (refine below_drewN ?_ _) | (refine Below.trans ?_ (Below.mono ‹Below _ _ _› ?_)) | omega | (simp; done) | (simp; omega) | (simp at *; omega)))))); rintro e w1 ⟨rfl, hb1⟩; obtain ⟨hc1, hf1⟩ := bcell hb1; have hz1 := hb1.size; (try simp at hz1); (try simp only [heap_drew, World.heap_drewN] at hz1); (try simp only [heap_drew, World.heap_drewN] at hc1); (try simp only [heap_drew, World.heap_drewN] at hf1); (try have hs1 := Nat.lt_of_succ_le hz1); (try have hs2 := Nat.lt_of_succ_lt hs1); (try have y0 : w.heap.size < w1.heap.size := by omega); (try have y1 : w.heap.size + 1 < w1.heap.size := by omega); (try have y2 : w.heap.size + 2 < w1.heap.size := by omega)))
  all_goals (go_ret; refine ⟨ret_bool (by rw [hf.out]; exact boolOf_eq (by simp [SecOK, HKA.out, HKC.out, HKN.out, *]; try (intros; omega))), ?_⟩; (repeat' (first | assumption | exact Below.refl _ _ | exact Below.size (by assumption) | (refine Below.setCell ?_ ?_ _) | (refine Below.alloc ?_ ?_ _) | (refine Below.drew ?_) | (refine below_drewN ?_ _) | (refine Below.trans ?_ (Below.mono ‹Below _ _ _› ?_)) | omega | (simp; done) | (simp; omega) | (simp at *; omega))))
set_option maxHeartbeats 1000000 in
theorem rsright (nm : ByteArray) (h p : Int) (A C : Option Addr) (na ca nc cc : Nat) (AX AY CX CY : Nat → Int) (w : World) (hn : nm.size ≤ maxLen) (hA : TabIn w A na AX AY) (hC : TabIn w C nc CX CY) :
    Calls Tryz.prog 20 #[.agg #[.string nm, .int .i64 h, .int .i64 p, .slice A na ca, .slice C nc cc]] w fun e w' => e = .returned (.bool (boolOf (SecOK nm.data.toList h p na AX AY nc CX CY))) ∧ Below w.heap.size w w' := by
  have SA := Lib.hid fun w ht => rfits A na ca AX AY h 1073741824 w ht
  have SC := Lib.hid fun w ht => rfits C nc cc CX CY h 1099511627776 w ht
  have S1 := Lib.hid fun w => risname nm hn w
  obtain ⟨f, hf⟩ : ∃ f, Hid (f = boolOf (SecOK nm.data.toList h p na AX AY nc CX CY)) := ⟨_, rfl⟩
  obtain ⟨ka, hka⟩ : ∃ f, f = boolOf (CurveOK na AX AY h 1073741824) := ⟨_, rfl⟩
  obtain ⟨kc, hkc⟩ : ∃ f, f = boolOf (CurveOK nc CX CY h 1099511627776) := ⟨_, rfl⟩
  obtain ⟨kn, hkn⟩ : ∃ f, f = nameB nm.data.toList := ⟨_, rfl⟩
  rw [← hka] at SA
  rw [← hkc] at SC
  rw [← hkn] at S1
  rw [← hf.out]
  have HKA := Lib.hid (iff_boolOf hka)
  have HKC := Lib.hid (iff_boolOf hkc)
  have HKN := Lib.hid hkn.symm
  have HA := Lib.hid hA
  have HC := Lib.hid hC
  clear hka hkc hkn hA hC hn
  go_enter Tryz.func20, Tryz.ntmps20
  go_wp2_with (first | (go_at_call 42; (with_reducible refine (S1.out _).mono ?_); rintro e w' ⟨rfl, rfl⟩) | (go_at_call 43; (with_reducible refine (SA.out _ ?_).mono ?_); (focus (exact HA.out.below (Nat.le_refl _) (by (repeat' (first | assumption | exact Below.refl _ _ | exact Below.size (by assumption) | (refine Below.setCell ?_ ?_ _) | (refine Below.alloc ?_ ?_ _) | (refine Below.drew ?_) | (refine below_drewN ?_ _) | (refine Below.trans ?_ (Below.mono ‹Below _ _ _› ?_)) | omega | (simp; done) | (simp; omega) | (simp at *; omega)))))); rintro e w1 ⟨rfl, hb1⟩; obtain ⟨hc1, hf1⟩ := bcell hb1; have hz1 := hb1.size; (try simp at hz1); (try simp only [heap_drew, World.heap_drewN] at hz1); (try simp only [heap_drew, World.heap_drewN] at hc1); (try simp only [heap_drew, World.heap_drewN] at hf1); (try have hs1 := Nat.lt_of_succ_le hz1); (try have hs2 := Nat.lt_of_succ_lt hs1); (try have y0 : w.heap.size < w1.heap.size := by omega); (try have y1 : w.heap.size + 1 < w1.heap.size := by omega); (try have y2 : w.heap.size + 2 < w1.heap.size := by omega)) | (go_at_call 43; (with_reducible refine (SC.out _ ?_).mono ?_); (focus (exact HC.out.below (Nat.le_refl _) (by (repeat' (first | assumption | exact Below.refl _ _ | exact Below.size (by assumption) | (refine Below.setCell ?_ ?_ _) | (refine Below.alloc ?_ ?_ _) | (refine Below.drew ?_) | (refine below_drewN ?_ _) | (refine Below.trans ?_ (Below.mono ‹Below _ _ _› ?_)) | omega | (simp; done) | (simp; omega) | (simp at *; omega)))))); rintro e w1 ⟨rfl, hb1⟩; obtain ⟨hc1, hf1⟩ := bcell hb1; have hz1 := hb1.size; (try simp at hz1); (try simp only [heap_drew, World.heap_drewN] at hz1); (try simp only [heap_drew, World.heap_drewN] at hc1); (try simp only [heap_drew, World.heap_drewN] at hf1); (try have hs1 := Nat.lt_of_succ_le hz1); (try have hs2 := Nat.lt_of_succ_lt hs1); (try have y0 : w.heap.size < w1.heap.size := by omega); (try have y1 : w.heap.size + 1 < w1.heap.size := by omega); (try have y2 : w.heap.size + 2 < w1.heap.size := by omega)))
  all_goals (go_ret; refine ⟨ret_bool (by rw [hf.out]; exact boolOf_eq (by simp [SecOK, HKA.out, HKC.out, HKN.out, *]; try (intros; omega))), ?_⟩; (repeat' (first | assumption | exact Below.refl _ _ | exact Below.size (by assumption) | (refine Below.setCell ?_ ?_ _) | (refine Below.alloc ?_ ?_ _) | (refine Below.drew ?_) | (refine below_drewN ?_ _) | (refine Below.trans ?_ (Below.mono ‹Below _ _ _› ?_)) | omega | (simp; done) | (simp; omega) | (simp at *; omega))))

theorem clarge (nm : ByteArray) (h p : Int) (A C : Option Addr) (na ca nc cc : Nat) (w : World) (hn : nm.size ≤ maxLen) (hA : na ≤ 9223372036854775807) (hC : nc ≤ 9223372036854775807) :
    Calls Tryz.prog 19 #[.agg #[.string nm, .int .i64 h, .int .i64 p, .slice A na ca, .slice C nc cc]] w fun e w' => e = .returned (.bool (boolOf (100 < nm.size ∨ 120 < na ∨ 120 < nc))) ∧ Below w.heap.size w w' := by
  unfold maxLen at hn
  obtain ⟨f, hf⟩ : ∃ f, Hid (f = boolOf (100 < nm.size ∨ 120 < na ∨ 120 < nc)) := ⟨_, rfl⟩
  rw [← hf.out]
  go_enter Tryz.func19, Tryz.ntmps19
  go_wp2_with fail
  all_goals (go_ret; refine ⟨ret_bool (by rw [hf.out]; exact boolOf_eq (by simp; try omega)), ?_⟩; (repeat' (first | assumption | exact Below.refl _ _ | exact Below.size (by assumption) | (refine Below.setCell ?_ ?_ _) | (refine Below.alloc ?_ ?_ _) | (refine Below.drew ?_) | (refine below_drewN ?_ _) | (refine Below.trans ?_ (Below.mono ‹Below _ _ _› ?_)) | omega | (simp; done) | (simp; omega) | (simp at *; omega))))
end Go.Proofs.YthbdeaglncoanaaGreatDoor

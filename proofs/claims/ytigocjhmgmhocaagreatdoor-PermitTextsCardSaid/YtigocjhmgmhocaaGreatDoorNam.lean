/- Valid of a permit, on both sides. -/
import Derived.Test.YtigocjhmgmhocaaGreatDoorBase
import Derived.Test.YtigocjhmgmhocaaGreatDoorName
import Derived.Test.YtigocjhmgmhocaaGreatDoorPrmP
namespace Go.Proofs.YtigocjhmgmhocaaGreatDoor
open Go.RowKit
set_option linter.unusedVariables false
set_option linter.unusedSimpArgs false

def validB (nm nd : ByteArray) (ev vol tot : Int) : Bool := nameB nm.data.toList && nameB nd.data.toList && decide (limR ev vol tot)
def prm (nm nd : ByteArray) (ev vol tot : Int) : Value := .agg #[.string nm, .string nd, .int .i64 ev, .int .i64 vol, .int .i64 tot]
theorem validB_true {nm nd : ByteArray} {ev vol tot : Int} : validB nm nd ev vol tot = true ↔ nameB nm.data.toList = true ∧ nameB nd.data.toList = true ∧ limR ev vol tot := by
  unfold validB
  simp [and_assoc]
set_option maxRecDepth 100000 in
theorem tvalid (nm nd : ByteArray) (ev vol tot : Int) (h1 : nm.size ≤ maxLen) (h2 : nd.size ≤ maxLen) (w : World) : Calls Tryz.prog 16 #[.agg #[.string nm, .string nd, .int .i64 ev, .int .i64 vol, .int .i64 tot]] w fun e w' => e = .returned (.bool (validB nm nd ev vol tot)) ∧ Below w.heap.size w w' := by
  have S1 := Lib.hid fun w => disname nm h1 w
  have S2 := Lib.hid fun w => disname nd h2 w
  unfold validB
  clear h1 h2
  generalize nameB nm.data.toList = b1 at S1 ⊢
  generalize nameB nd.data.toList = b2 at S2 ⊢
  obtain ⟨V, hV⟩ : ∃ V, V = (b1 && b2 && decide (limR ev vol tot)) := ⟨_, rfl⟩
  rw [← hV]
  cases b1 with
  | false =>
    obtain rfl : V = false := by rw [hV]; rfl
    clear hV
    go_enter Tryz.func16, Tryz.ntmps16
    go_wp2_with (first | (go_at_call 33; (with_reducible refine (S1.out _).mono ?_); rintro e w' ⟨rfl, rfl⟩) | (go_at_call 33; (with_reducible refine (S2.out _).mono ?_); rintro e w' ⟨rfl, rfl⟩))
    go_ret
    exact ⟨rfl, by (repeat' (first | assumption | exact Below.refl _ _ | exact Below.size (by assumption) | (refine Below.setCell ?_ ?_ _) | (refine Below.alloc ?_ ?_ _) | (refine Below.drew ?_) | (refine below_drewN ?_ _) | (refine Below.trans ?_ (Below.mono ‹Below _ _ _› ?_)) | omega | (simp; done) | (simp; omega) | (simp at *; omega)))⟩
  | true =>
    cases b2 with
    | false =>
      obtain rfl : V = false := by rw [hV]; rfl
      clear hV
      go_enter Tryz.func16, Tryz.ntmps16
      go_wp2_with (first | (go_at_call 33; (with_reducible refine (S1.out _).mono ?_); rintro e w' ⟨rfl, rfl⟩) | (go_at_call 33; (with_reducible refine (S2.out _).mono ?_); rintro e w' ⟨rfl, rfl⟩))
      go_ret
      exact ⟨rfl, by (repeat' (first | assumption | exact Below.refl _ _ | exact Below.size (by assumption) | (refine Below.setCell ?_ ?_ _) | (refine Below.alloc ?_ ?_ _) | (refine Below.drew ?_) | (refine below_drewN ?_ _) | (refine Below.trans ?_ (Below.mono ‹Below _ _ _› ?_)) | omega | (simp; done) | (simp; omega) | (simp at *; omega)))⟩
    | true =>
      by_cases g0 : 0 ≤ ev
      · have t0 : decide ((0 : Int) ≤ ev) = true := decide_eq_true g0
        by_cases g1 : ev ≤ 10000
        · have t1 : decide (ev ≤ (10000 : Int)) = true := decide_eq_true g1
          by_cases g2 : 0 ≤ vol
          · have t2 : decide ((0 : Int) ≤ vol) = true := decide_eq_true g2
            by_cases g3 : vol ≤ 576460752303423488
            · have t3 : decide (vol ≤ (576460752303423488 : Int)) = true := decide_eq_true g3
              by_cases g4 : 0 ≤ tot
              · have t4 : decide ((0 : Int) ≤ tot) = true := decide_eq_true g4
                by_cases g5 : tot ≤ 576460752303423488
                · have t5 : decide (tot ≤ (576460752303423488 : Int)) = true := decide_eq_true g5
                  obtain rfl : V = true := by rw [hV]; unfold limR; simp [g0, g1, g2, g3, g4, g5]
                  clear hV g0 g1 g2 g3 g4 g5
                  go_enter Tryz.func16, Tryz.ntmps16
                  go_wp2_with (first | (go_at_call 33; (with_reducible refine (S1.out _).mono ?_); rintro e w' ⟨rfl, rfl⟩) | (go_at_call 33; (with_reducible refine (S2.out _).mono ?_); rintro e w' ⟨rfl, rfl⟩))
                  go_ret
                  exact ⟨rfl, by (repeat' (first | assumption | exact Below.refl _ _ | exact Below.size (by assumption) | (refine Below.setCell ?_ ?_ _) | (refine Below.alloc ?_ ?_ _) | (refine Below.drew ?_) | (refine below_drewN ?_ _) | (refine Below.trans ?_ (Below.mono ‹Below _ _ _› ?_)) | omega | (simp; done) | (simp; omega) | (simp at *; omega)))⟩
                · have t5 : decide (tot ≤ (576460752303423488 : Int)) = false := decide_eq_false g5
                  obtain rfl : V = false := by rw [hV]; unfold limR; simp [g5]
                  clear hV g0 g1 g2 g3 g4 g5
                  go_enter Tryz.func16, Tryz.ntmps16
                  go_wp2_with (first | (go_at_call 33; (with_reducible refine (S1.out _).mono ?_); rintro e w' ⟨rfl, rfl⟩) | (go_at_call 33; (with_reducible refine (S2.out _).mono ?_); rintro e w' ⟨rfl, rfl⟩))
                  go_ret
                  exact ⟨rfl, by (repeat' (first | assumption | exact Below.refl _ _ | exact Below.size (by assumption) | (refine Below.setCell ?_ ?_ _) | (refine Below.alloc ?_ ?_ _) | (refine Below.drew ?_) | (refine below_drewN ?_ _) | (refine Below.trans ?_ (Below.mono ‹Below _ _ _› ?_)) | omega | (simp; done) | (simp; omega) | (simp at *; omega)))⟩
              · have t4 : decide ((0 : Int) ≤ tot) = false := decide_eq_false g4
                obtain rfl : V = false := by rw [hV]; unfold limR; simp [g4]
                clear hV g0 g1 g2 g3 g4
                go_enter Tryz.func16, Tryz.ntmps16
                go_wp2_with (first | (go_at_call 33; (with_reducible refine (S1.out _).mono ?_); rintro e w' ⟨rfl, rfl⟩) | (go_at_call 33; (with_reducible refine (S2.out _).mono ?_); rintro e w' ⟨rfl, rfl⟩))
                go_ret
                exact ⟨rfl, by (repeat' (first | assumption | exact Below.refl _ _ | exact Below.size (by assumption) | (refine Below.setCell ?_ ?_ _) | (refine Below.alloc ?_ ?_ _) | (refine Below.drew ?_) | (refine below_drewN ?_ _) | (refine Below.trans ?_ (Below.mono ‹Below _ _ _› ?_)) | omega | (simp; done) | (simp; omega) | (simp at *; omega)))⟩
            · have t3 : decide (vol ≤ (576460752303423488 : Int)) = false := decide_eq_false g3
              obtain rfl : V = false := by rw [hV]; unfold limR; simp [g3]
              clear hV g0 g1 g2 g3
              go_enter Tryz.func16, Tryz.ntmps16
              go_wp2_with (first | (go_at_call 33; (with_reducible refine (S1.out _).mono ?_); rintro e w' ⟨rfl, rfl⟩) | (go_at_call 33; (with_reducible refine (S2.out _).mono ?_); rintro e w' ⟨rfl, rfl⟩))
              go_ret
              exact ⟨rfl, by (repeat' (first | assumption | exact Below.refl _ _ | exact Below.size (by assumption) | (refine Below.setCell ?_ ?_ _) | (refine Below.alloc ?_ ?_ _) | (refine Below.drew ?_) | (refine below_drewN ?_ _) | (refine Below.trans ?_ (Below.mono ‹Below _ _ _› ?_)) | omega | (simp; done) | (simp; omega) | (simp at *; omega)))⟩
          · have t2 : decide ((0 : Int) ≤ vol) = false := decide_eq_false g2
            obtain rfl : V = false := by rw [hV]; unfold limR; simp [g2]
            clear hV g0 g1 g2
            go_enter Tryz.func16, Tryz.ntmps16
            go_wp2_with (first | (go_at_call 33; (with_reducible refine (S1.out _).mono ?_); rintro e w' ⟨rfl, rfl⟩) | (go_at_call 33; (with_reducible refine (S2.out _).mono ?_); rintro e w' ⟨rfl, rfl⟩))
            go_ret
            exact ⟨rfl, by (repeat' (first | assumption | exact Below.refl _ _ | exact Below.size (by assumption) | (refine Below.setCell ?_ ?_ _) | (refine Below.alloc ?_ ?_ _) | (refine Below.drew ?_) | (refine below_drewN ?_ _) | (refine Below.trans ?_ (Below.mono ‹Below _ _ _› ?_)) | omega | (simp; done) | (simp; omega) | (simp at *; omega)))⟩
        · have t1 : decide (ev ≤ (10000 : Int)) = false := decide_eq_false g1
          obtain rfl : V = false := by rw [hV]; unfold limR; simp [g1]
          clear hV g0 g1
          go_enter Tryz.func16, Tryz.ntmps16
          go_wp2_with (first | (go_at_call 33; (with_reducible refine (S1.out _).mono ?_); rintro e w' ⟨rfl, rfl⟩) | (go_at_call 33; (with_reducible refine (S2.out _).mono ?_); rintro e w' ⟨rfl, rfl⟩))
          go_ret
          exact ⟨rfl, by (repeat' (first | assumption | exact Below.refl _ _ | exact Below.size (by assumption) | (refine Below.setCell ?_ ?_ _) | (refine Below.alloc ?_ ?_ _) | (refine Below.drew ?_) | (refine below_drewN ?_ _) | (refine Below.trans ?_ (Below.mono ‹Below _ _ _› ?_)) | omega | (simp; done) | (simp; omega) | (simp at *; omega)))⟩
      · have t0 : decide ((0 : Int) ≤ ev) = false := decide_eq_false g0
        obtain rfl : V = false := by rw [hV]; unfold limR; simp [g0]
        clear hV g0
        go_enter Tryz.func16, Tryz.ntmps16
        go_wp2_with (first | (go_at_call 33; (with_reducible refine (S1.out _).mono ?_); rintro e w' ⟨rfl, rfl⟩) | (go_at_call 33; (with_reducible refine (S2.out _).mono ?_); rintro e w' ⟨rfl, rfl⟩))
        go_ret
        exact ⟨rfl, by (repeat' (first | assumption | exact Below.refl _ _ | exact Below.size (by assumption) | (refine Below.setCell ?_ ?_ _) | (refine Below.alloc ?_ ?_ _) | (refine Below.drew ?_) | (refine below_drewN ?_ _) | (refine Below.trans ?_ (Below.mono ‹Below _ _ _› ?_)) | omega | (simp; done) | (simp; omega) | (simp at *; omega)))⟩
set_option maxRecDepth 100000 in
theorem rvalid (nm nd : ByteArray) (ev vol tot : Int) (h1 : nm.size ≤ maxLen) (h2 : nd.size ≤ maxLen) (w : World) : Calls Tryz.prog 10 #[.agg #[.string nm, .string nd, .int .i64 ev, .int .i64 vol, .int .i64 tot]] w fun e w' => e = .returned (.bool (validB nm nd ev vol tot)) ∧ Below w.heap.size w w' := by
  have S1 := Lib.hid fun w => risname nm h1 w
  have S2 := Lib.hid fun w => risname nd h2 w
  unfold validB
  clear h1 h2
  generalize nameB nm.data.toList = b1 at S1 ⊢
  generalize nameB nd.data.toList = b2 at S2 ⊢
  obtain ⟨V, hV⟩ : ∃ V, V = (b1 && b2 && decide (limR ev vol tot)) := ⟨_, rfl⟩
  rw [← hV]
  cases b1 with
  | false =>
    obtain rfl : V = false := by rw [hV]; rfl
    clear hV
    go_enter Tryz.func10, Tryz.ntmps10
    go_wp2_with (first | (go_at_call 25; (with_reducible refine (S1.out _).mono ?_); rintro e w' ⟨rfl, rfl⟩) | (go_at_call 25; (with_reducible refine (S2.out _).mono ?_); rintro e w' ⟨rfl, rfl⟩))
    go_ret
    exact ⟨rfl, by (repeat' (first | assumption | exact Below.refl _ _ | exact Below.size (by assumption) | (refine Below.setCell ?_ ?_ _) | (refine Below.alloc ?_ ?_ _) | (refine Below.drew ?_) | (refine below_drewN ?_ _) | (refine Below.trans ?_ (Below.mono ‹Below _ _ _› ?_)) | omega | (simp; done) | (simp; omega) | (simp at *; omega)))⟩
  | true =>
    cases b2 with
    | false =>
      obtain rfl : V = false := by rw [hV]; rfl
      clear hV
      go_enter Tryz.func10, Tryz.ntmps10
      go_wp2_with (first | (go_at_call 25; (with_reducible refine (S1.out _).mono ?_); rintro e w' ⟨rfl, rfl⟩) | (go_at_call 25; (with_reducible refine (S2.out _).mono ?_); rintro e w' ⟨rfl, rfl⟩))
      go_ret
      exact ⟨rfl, by (repeat' (first | assumption | exact Below.refl _ _ | exact Below.size (by assumption) | (refine Below.setCell ?_ ?_ _) | (refine Below.alloc ?_ ?_ _) | (refine Below.drew ?_) | (refine below_drewN ?_ _) | (refine Below.trans ?_ (Below.mono ‹Below _ _ _› ?_)) | omega | (simp; done) | (simp; omega) | (simp at *; omega)))⟩
    | true =>
      by_cases g0 : 0 ≤ ev
      · have t0 : decide ((0 : Int) ≤ ev) = true := decide_eq_true g0
        by_cases g1 : ev ≤ 10000
        · have t1 : decide (ev ≤ (10000 : Int)) = true := decide_eq_true g1
          by_cases g2 : 0 ≤ vol
          · have t2 : decide ((0 : Int) ≤ vol) = true := decide_eq_true g2
            by_cases g3 : vol ≤ 576460752303423488
            · have t3 : decide (vol ≤ (576460752303423488 : Int)) = true := decide_eq_true g3
              by_cases g4 : 0 ≤ tot
              · have t4 : decide ((0 : Int) ≤ tot) = true := decide_eq_true g4
                by_cases g5 : tot ≤ 576460752303423488
                · have t5 : decide (tot ≤ (576460752303423488 : Int)) = true := decide_eq_true g5
                  obtain rfl : V = true := by rw [hV]; unfold limR; simp [g0, g1, g2, g3, g4, g5]
                  clear hV g0 g1 g2 g3 g4 g5
                  go_enter Tryz.func10, Tryz.ntmps10
                  go_wp2_with (first | (go_at_call 25; (with_reducible refine (S1.out _).mono ?_); rintro e w' ⟨rfl, rfl⟩) | (go_at_call 25; (with_reducible refine (S2.out _).mono ?_); rintro e w' ⟨rfl, rfl⟩))
                  go_ret
                  exact ⟨rfl, by (repeat' (first | assumption | exact Below.refl _ _ | exact Below.size (by assumption) | (refine Below.setCell ?_ ?_ _) | (refine Below.alloc ?_ ?_ _) | (refine Below.drew ?_) | (refine below_drewN ?_ _) | (refine Below.trans ?_ (Below.mono ‹Below _ _ _› ?_)) | omega | (simp; done) | (simp; omega) | (simp at *; omega)))⟩
                · have t5 : decide (tot ≤ (576460752303423488 : Int)) = false := decide_eq_false g5
                  obtain rfl : V = false := by rw [hV]; unfold limR; simp [g5]
                  clear hV g0 g1 g2 g3 g4 g5
                  go_enter Tryz.func10, Tryz.ntmps10
                  go_wp2_with (first | (go_at_call 25; (with_reducible refine (S1.out _).mono ?_); rintro e w' ⟨rfl, rfl⟩) | (go_at_call 25; (with_reducible refine (S2.out _).mono ?_); rintro e w' ⟨rfl, rfl⟩))
                  go_ret
                  exact ⟨rfl, by (repeat' (first | assumption | exact Below.refl _ _ | exact Below.size (by assumption) | (refine Below.setCell ?_ ?_ _) | (refine Below.alloc ?_ ?_ _) | (refine Below.drew ?_) | (refine below_drewN ?_ _) | (refine Below.trans ?_ (Below.mono ‹Below _ _ _› ?_)) | omega | (simp; done) | (simp; omega) | (simp at *; omega)))⟩
              · have t4 : decide ((0 : Int) ≤ tot) = false := decide_eq_false g4
                obtain rfl : V = false := by rw [hV]; unfold limR; simp [g4]
                clear hV g0 g1 g2 g3 g4
                go_enter Tryz.func10, Tryz.ntmps10
                go_wp2_with (first | (go_at_call 25; (with_reducible refine (S1.out _).mono ?_); rintro e w' ⟨rfl, rfl⟩) | (go_at_call 25; (with_reducible refine (S2.out _).mono ?_); rintro e w' ⟨rfl, rfl⟩))
                go_ret
                exact ⟨rfl, by (repeat' (first | assumption | exact Below.refl _ _ | exact Below.size (by assumption) | (refine Below.setCell ?_ ?_ _) | (refine Below.alloc ?_ ?_ _) | (refine Below.drew ?_) | (refine below_drewN ?_ _) | (refine Below.trans ?_ (Below.mono ‹Below _ _ _› ?_)) | omega | (simp; done) | (simp; omega) | (simp at *; omega)))⟩
            · have t3 : decide (vol ≤ (576460752303423488 : Int)) = false := decide_eq_false g3
              obtain rfl : V = false := by rw [hV]; unfold limR; simp [g3]
              clear hV g0 g1 g2 g3
              go_enter Tryz.func10, Tryz.ntmps10
              go_wp2_with (first | (go_at_call 25; (with_reducible refine (S1.out _).mono ?_); rintro e w' ⟨rfl, rfl⟩) | (go_at_call 25; (with_reducible refine (S2.out _).mono ?_); rintro e w' ⟨rfl, rfl⟩))
              go_ret
              exact ⟨rfl, by (repeat' (first | assumption | exact Below.refl _ _ | exact Below.size (by assumption) | (refine Below.setCell ?_ ?_ _) | (refine Below.alloc ?_ ?_ _) | (refine Below.drew ?_) | (refine below_drewN ?_ _) | (refine Below.trans ?_ (Below.mono ‹Below _ _ _› ?_)) | omega | (simp; done) | (simp; omega) | (simp at *; omega)))⟩
          · have t2 : decide ((0 : Int) ≤ vol) = false := decide_eq_false g2
            obtain rfl : V = false := by rw [hV]; unfold limR; simp [g2]
            clear hV g0 g1 g2
            go_enter Tryz.func10, Tryz.ntmps10
            go_wp2_with (first | (go_at_call 25; (with_reducible refine (S1.out _).mono ?_); rintro e w' ⟨rfl, rfl⟩) | (go_at_call 25; (with_reducible refine (S2.out _).mono ?_); rintro e w' ⟨rfl, rfl⟩))
            go_ret
            exact ⟨rfl, by (repeat' (first | assumption | exact Below.refl _ _ | exact Below.size (by assumption) | (refine Below.setCell ?_ ?_ _) | (refine Below.alloc ?_ ?_ _) | (refine Below.drew ?_) | (refine below_drewN ?_ _) | (refine Below.trans ?_ (Below.mono ‹Below _ _ _› ?_)) | omega | (simp; done) | (simp; omega) | (simp at *; omega)))⟩
        · have t1 : decide (ev ≤ (10000 : Int)) = false := decide_eq_false g1
          obtain rfl : V = false := by rw [hV]; unfold limR; simp [g1]
          clear hV g0 g1
          go_enter Tryz.func10, Tryz.ntmps10
          go_wp2_with (first | (go_at_call 25; (with_reducible refine (S1.out _).mono ?_); rintro e w' ⟨rfl, rfl⟩) | (go_at_call 25; (with_reducible refine (S2.out _).mono ?_); rintro e w' ⟨rfl, rfl⟩))
          go_ret
          exact ⟨rfl, by (repeat' (first | assumption | exact Below.refl _ _ | exact Below.size (by assumption) | (refine Below.setCell ?_ ?_ _) | (refine Below.alloc ?_ ?_ _) | (refine Below.drew ?_) | (refine below_drewN ?_ _) | (refine Below.trans ?_ (Below.mono ‹Below _ _ _› ?_)) | omega | (simp; done) | (simp; omega) | (simp at *; omega)))⟩
      · have t0 : decide ((0 : Int) ≤ ev) = false := decide_eq_false g0
        obtain rfl : V = false := by rw [hV]; unfold limR; simp [g0]
        clear hV g0
        go_enter Tryz.func10, Tryz.ntmps10
        go_wp2_with (first | (go_at_call 25; (with_reducible refine (S1.out _).mono ?_); rintro e w' ⟨rfl, rfl⟩) | (go_at_call 25; (with_reducible refine (S2.out _).mono ?_); rintro e w' ⟨rfl, rfl⟩))
        go_ret
        exact ⟨rfl, by (repeat' (first | assumption | exact Below.refl _ _ | exact Below.size (by assumption) | (refine Below.setCell ?_ ?_ _) | (refine Below.alloc ?_ ?_ _) | (refine Below.drew ?_) | (refine below_drewN ?_ _) | (refine Below.trans ?_ (Below.mono ‹Below _ _ _› ?_)) | omega | (simp; done) | (simp; omega) | (simp at *; omega)))⟩

/-- long: a name is longer than 60 bytes. -/
theorem tlong (nm nd : ByteArray) (ev vol tot : Int) (w : World) : Calls Tryz.prog 7 #[.agg #[.string nm, .string nd, .int .i64 ev, .int .i64 vol, .int .i64 tot]] w fun e w' => e = .returned (.bool (decide (60 < nm.size ∨ 60 < nd.size))) ∧ Below w.heap.size w w' := by
  by_cases h1 : 60 < nm.size
  · rw [decide_eq_true (Or.inl h1)]
    have t1 : decide ((60 : Int) < (nm.size : Int)) = true := decide_eq_true (by omega)
    have t1' : decide (60 < nm.size) = true := decide_eq_true h1
    clear h1
    go_enter Tryz.func7, Tryz.ntmps7
    go_wp2_with fail
    go_ret
    exact ⟨rfl, by (repeat' (first | assumption | exact Below.refl _ _ | exact Below.size (by assumption) | (refine Below.setCell ?_ ?_ _) | (refine Below.alloc ?_ ?_ _) | (refine Below.drew ?_) | (refine below_drewN ?_ _) | (refine Below.trans ?_ (Below.mono ‹Below _ _ _› ?_)) | omega | (simp; done) | (simp; omega) | (simp at *; omega)))⟩
  · have t1 : decide ((60 : Int) < (nm.size : Int)) = false := decide_eq_false (by omega)
    have t1' : decide (60 < nm.size) = false := decide_eq_false h1
    by_cases h2 : 60 < nd.size
    · rw [decide_eq_true (Or.inr h2)]
      have t2 : decide ((60 : Int) < (nd.size : Int)) = true := decide_eq_true (by omega)
      have t2' : decide (60 < nd.size) = true := decide_eq_true h2
      clear h1 h2
      go_enter Tryz.func7, Tryz.ntmps7
      go_wp2_with fail
      go_ret
      exact ⟨rfl, by (repeat' (first | assumption | exact Below.refl _ _ | exact Below.size (by assumption) | (refine Below.setCell ?_ ?_ _) | (refine Below.alloc ?_ ?_ _) | (refine Below.drew ?_) | (refine below_drewN ?_ _) | (refine Below.trans ?_ (Below.mono ‹Below _ _ _› ?_)) | omega | (simp; done) | (simp; omega) | (simp at *; omega)))⟩
    · rw [decide_eq_false (show ¬ (60 < nm.size ∨ 60 < nd.size) by omega)]
      have t2 : decide ((60 : Int) < (nd.size : Int)) = false := decide_eq_false (by omega)
      have t2' : decide (60 < nd.size) = false := decide_eq_false h2
      clear h1 h2
      go_enter Tryz.func7, Tryz.ntmps7
      go_wp2_with fail
      go_ret
      exact ⟨rfl, by (repeat' (first | assumption | exact Below.refl _ _ | exact Below.size (by assumption) | (refine Below.setCell ?_ ?_ _) | (refine Below.alloc ?_ ?_ _) | (refine Below.drew ?_) | (refine below_drewN ?_ _) | (refine Below.trans ?_ (Below.mono ‹Below _ _ _› ?_)) | omega | (simp; done) | (simp; omega) | (simp at *; omega)))⟩
end Go.Proofs.YtigocjhmgmhocaaGreatDoor

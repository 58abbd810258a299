/- What Circle answers to arguments that are not right, by the package and by the reference. -/
import Derived.Test.YtchapkjloicfnaaRefJ
namespace Go.Proofs.Ytchapkjloicfnaa
open Go.RowKit
set_option linter.unusedVariables false
set_option linter.unusedSimpArgs false

/-- The section of zeros. -/
def noSec (e : Int) : Ending := .returned (.tuple #[.agg #[.string ⟨#[]⟩, .int .i64 0, .int .i64 0, .slice none 0 0, .slice none 0 0], .int .i64 e])
set_option maxRecDepth 100000 in
theorem ccircle_name (nm : ByteArray) (a b c : Int) (w : World) (hn : nm.size ≤ maxLen) (hnm : nameB nm.data.toList = false) :
    Calls Try.prog 17 #[.string nm, .int .i64 a, .int .i64 b, .int .i64 c] w fun e w' => e = noSec 9 ∧ Below w.heap.size w w' := by
  have S0 := Lib.hid fun w => disname nm hn w
  clear hn
  unfold noSec
  go_enter Try.func17, Try.ntmps17
  go_upto_region 2 with (first | (go_at_call 36; (with_reducible refine (S0.out _).mono ?_); rintro e w' ⟨rfl, rfl⟩))
  repeat (first | go_values | go_skip | go_guarded | go_step | go_upon)
  refine bodyPost_ret (v := .tuple #[.agg #[.string ⟨#[]⟩, .int .i64 0, .int .i64 0, .slice none 0 0, .slice none 0 0], .int .i64 9]) (by simp [results, Try.results17, go_sem, *]) rfl ⟨rfl, ?_⟩
  (repeat' (first | assumption | exact Below.refl _ _ | exact Below.size (by assumption) | (refine Below.setCell ?_ ?_ _) | (refine Below.alloc ?_ ?_ _) | (refine Below.drew ?_) | (refine below_drewN ?_ _) | (refine Below.trans ?_ (Below.mono ‹Below _ _ _› ?_)) | omega | (simp; done) | (simp; omega) | (simp at *; omega)))
set_option maxRecDepth 100000 in
theorem ccircle_range (nm : ByteArray) (a b c : Int) (w : World) (hn : nm.size ≤ maxLen) (hnm : nameB nm.data.toList = true) (hr : ¬ (2 ≤ a ∧ a ≤ 32768 ∧ 0 ≤ b ∧ b ≤ 1073741824 ∧ 2 ≤ c ∧ c ≤ 99 ∧ c ≤ a)) :
    Calls Try.prog 17 #[.string nm, .int .i64 a, .int .i64 b, .int .i64 c] w fun e w' => e = noSec 2 ∧ Below w.heap.size w w' := by
  have S0 := Lib.hid fun w => disname nm hn w
  clear hn
  unfold noSec
  by_cases h0 : a < 2
  · have t0 : decide (a < 2) = true := decide_eq_true h0
    clear hr h0
    go_enter Try.func17, Try.ntmps17
    go_upto_region 4 with (first | (go_at_call 36; (with_reducible refine (S0.out _).mono ?_); rintro e w' ⟨rfl, rfl⟩))
    repeat (first | go_values | go_skip | go_guarded | go_step | go_upon)
    refine bodyPost_ret (v := .tuple #[.agg #[.string ⟨#[]⟩, .int .i64 0, .int .i64 0, .slice none 0 0, .slice none 0 0], .int .i64 2]) (by simp [results, Try.results17, go_sem, *]) rfl ⟨rfl, ?_⟩
    (repeat' (first | assumption | exact Below.refl _ _ | exact Below.size (by assumption) | (refine Below.setCell ?_ ?_ _) | (refine Below.alloc ?_ ?_ _) | (refine Below.drew ?_) | (refine below_drewN ?_ _) | (refine Below.trans ?_ (Below.mono ‹Below _ _ _› ?_)) | omega | (simp; done) | (simp; omega) | (simp at *; omega)))
  have t0 : decide (a < 2) = false := decide_eq_false h0
  by_cases h1 : 32768 < a
  · have t1 : decide (32768 < a) = true := decide_eq_true h1
    clear hr h0 h1
    go_enter Try.func17, Try.ntmps17
    go_upto_region 4 with (first | (go_at_call 36; (with_reducible refine (S0.out _).mono ?_); rintro e w' ⟨rfl, rfl⟩))
    repeat (first | go_values | go_skip | go_guarded | go_step | go_upon)
    refine bodyPost_ret (v := .tuple #[.agg #[.string ⟨#[]⟩, .int .i64 0, .int .i64 0, .slice none 0 0, .slice none 0 0], .int .i64 2]) (by simp [results, Try.results17, go_sem, *]) rfl ⟨rfl, ?_⟩
    (repeat' (first | assumption | exact Below.refl _ _ | exact Below.size (by assumption) | (refine Below.setCell ?_ ?_ _) | (refine Below.alloc ?_ ?_ _) | (refine Below.drew ?_) | (refine below_drewN ?_ _) | (refine Below.trans ?_ (Below.mono ‹Below _ _ _› ?_)) | omega | (simp; done) | (simp; omega) | (simp at *; omega)))
  have t1 : decide (32768 < a) = false := decide_eq_false h1
  by_cases h2 : b < 0
  · have t2 : decide (b < 0) = true := decide_eq_true h2
    clear hr h0 h1 h2
    go_enter Try.func17, Try.ntmps17
    go_upto_region 4 with (first | (go_at_call 36; (with_reducible refine (S0.out _).mono ?_); rintro e w' ⟨rfl, rfl⟩))
    repeat (first | go_values | go_skip | go_guarded | go_step | go_upon)
    refine bodyPost_ret (v := .tuple #[.agg #[.string ⟨#[]⟩, .int .i64 0, .int .i64 0, .slice none 0 0, .slice none 0 0], .int .i64 2]) (by simp [results, Try.results17, go_sem, *]) rfl ⟨rfl, ?_⟩
    (repeat' (first | assumption | exact Below.refl _ _ | exact Below.size (by assumption) | (refine Below.setCell ?_ ?_ _) | (refine Below.alloc ?_ ?_ _) | (refine Below.drew ?_) | (refine below_drewN ?_ _) | (refine Below.trans ?_ (Below.mono ‹Below _ _ _› ?_)) | omega | (simp; done) | (simp; omega) | (simp at *; omega)))
  have t2 : decide (b < 0) = false := decide_eq_false h2
  by_cases h3 : 1073741824 < b
  · have t3 : decide (1073741824 < b) = true := decide_eq_true h3
    clear hr h0 h1 h2 h3
    go_enter Try.func17, Try.ntmps17
    go_upto_region 4 with (first | (go_at_call 36; (with_reducible refine (S0.out _).mono ?_); rintro e w' ⟨rfl, rfl⟩))
    repeat (first | go_values | go_skip | go_guarded | go_step | go_upon)
    refine bodyPost_ret (v := .tuple #[.agg #[.string ⟨#[]⟩, .int .i64 0, .int .i64 0, .slice none 0 0, .slice none 0 0], .int .i64 2]) (by simp [results, Try.results17, go_sem, *]) rfl ⟨rfl, ?_⟩
    (repeat' (first | assumption | exact Below.refl _ _ | exact Below.size (by assumption) | (refine Below.setCell ?_ ?_ _) | (refine Below.alloc ?_ ?_ _) | (refine Below.drew ?_) | (refine below_drewN ?_ _) | (refine Below.trans ?_ (Below.mono ‹Below _ _ _› ?_)) | omega | (simp; done) | (simp; omega) | (simp at *; omega)))
  have t3 : decide (1073741824 < b) = false := decide_eq_false h3
  by_cases h4 : c < 2
  · have t4 : decide (c < 2) = true := decide_eq_true h4
    clear hr h0 h1 h2 h3 h4
    go_enter Try.func17, Try.ntmps17
    go_upto_region 4 with (first | (go_at_call 36; (with_reducible refine (S0.out _).mono ?_); rintro e w' ⟨rfl, rfl⟩))
    repeat (first | go_values | go_skip | go_guarded | go_step | go_upon)
    refine bodyPost_ret (v := .tuple #[.agg #[.string ⟨#[]⟩, .int .i64 0, .int .i64 0, .slice none 0 0, .slice none 0 0], .int .i64 2]) (by simp [results, Try.results17, go_sem, *]) rfl ⟨rfl, ?_⟩
    (repeat' (first | assumption | exact Below.refl _ _ | exact Below.size (by assumption) | (refine Below.setCell ?_ ?_ _) | (refine Below.alloc ?_ ?_ _) | (refine Below.drew ?_) | (refine below_drewN ?_ _) | (refine Below.trans ?_ (Below.mono ‹Below _ _ _› ?_)) | omega | (simp; done) | (simp; omega) | (simp at *; omega)))
  have t4 : decide (c < 2) = false := decide_eq_false h4
  by_cases h5 : 99 < c
  · have t5 : decide (99 < c) = true := decide_eq_true h5
    clear hr h0 h1 h2 h3 h4 h5
    go_enter Try.func17, Try.ntmps17
    go_upto_region 4 with (first | (go_at_call 36; (with_reducible refine (S0.out _).mono ?_); rintro e w' ⟨rfl, rfl⟩))
    repeat (first | go_values | go_skip | go_guarded | go_step | go_upon)
    refine bodyPost_ret (v := .tuple #[.agg #[.string ⟨#[]⟩, .int .i64 0, .int .i64 0, .slice none 0 0, .slice none 0 0], .int .i64 2]) (by simp [results, Try.results17, go_sem, *]) rfl ⟨rfl, ?_⟩
    (repeat' (first | assumption | exact Below.refl _ _ | exact Below.size (by assumption) | (refine Below.setCell ?_ ?_ _) | (refine Below.alloc ?_ ?_ _) | (refine Below.drew ?_) | (refine below_drewN ?_ _) | (refine Below.trans ?_ (Below.mono ‹Below _ _ _› ?_)) | omega | (simp; done) | (simp; omega) | (simp at *; omega)))
  have t5 : decide (99 < c) = false := decide_eq_false h5
  have h6 : a < c := by omega
  have t6 : decide (a < c) = true := decide_eq_true h6
  clear hr h0 h1 h2 h3 h4 h5 h6
  go_enter Try.func17, Try.ntmps17
  go_upto_region 4 with (first | (go_at_call 36; (with_reducible refine (S0.out _).mono ?_); rintro e w' ⟨rfl, rfl⟩))
  repeat (first | go_values | go_skip | go_guarded | go_step | go_upon)
  refine bodyPost_ret (v := .tuple #[.agg #[.string ⟨#[]⟩, .int .i64 0, .int .i64 0, .slice none 0 0, .slice none 0 0], .int .i64 2]) (by simp [results, Try.results17, go_sem, *]) rfl ⟨rfl, ?_⟩
  (repeat' (first | assumption | exact Below.refl _ _ | exact Below.size (by assumption) | (refine Below.setCell ?_ ?_ _) | (refine Below.alloc ?_ ?_ _) | (refine Below.drew ?_) | (refine below_drewN ?_ _) | (refine Below.trans ?_ (Below.mono ‹Below _ _ _› ?_)) | omega | (simp; done) | (simp; omega) | (simp at *; omega)))
set_option maxRecDepth 100000 in
theorem rcircle_name (nm : ByteArray) (a b c : Int) (w : World) (hn : nm.size ≤ maxLen) (hnm : nameB nm.data.toList = false) :
    Calls Try.prog 18 #[.string nm, .int .i64 a, .int .i64 b, .int .i64 c] w fun e w' => e = noSec 9 ∧ Below w.heap.size w w' := by
  have S0 := Lib.hid fun w => risname nm hn w
  clear hn
  unfold noSec
  go_enter Try.func18, Try.ntmps18
  go_upto_region 2 with (first | (go_at_call 31; (with_reducible refine (S0.out _).mono ?_); rintro e w' ⟨rfl, rfl⟩))
  repeat (first | go_values | go_skip | go_guarded | go_step | go_upon)
  refine bodyPost_ret (v := .tuple #[.agg #[.string ⟨#[]⟩, .int .i64 0, .int .i64 0, .slice none 0 0, .slice none 0 0], .int .i64 9]) (by simp [results, Try.results18, go_sem, *]) rfl ⟨rfl, ?_⟩
  (repeat' (first | assumption | exact Below.refl _ _ | exact Below.size (by assumption) | (refine Below.setCell ?_ ?_ _) | (refine Below.alloc ?_ ?_ _) | (refine Below.drew ?_) | (refine below_drewN ?_ _) | (refine Below.trans ?_ (Below.mono ‹Below _ _ _› ?_)) | omega | (simp; done) | (simp; omega) | (simp at *; omega)))
set_option maxRecDepth 100000 in
theorem rcircle_range (nm : ByteArray) (a b c : Int) (w : World) (hn : nm.size ≤ maxLen) (hnm : nameB nm.data.toList = true) (hr : ¬ (2 ≤ a ∧ a ≤ 32768 ∧ 0 ≤ b ∧ b ≤ 1073741824 ∧ 2 ≤ c ∧ c ≤ 99 ∧ c ≤ a)) :
    Calls Try.prog 18 #[.string nm, .int .i64 a, .int .i64 b, .int .i64 c] w fun e w' => e = noSec 2 ∧ Below w.heap.size w w' := by
  have S0 := Lib.hid fun w => risname nm hn w
  clear hn
  unfold noSec
  by_cases h0 : a < 2
  · have t0 : decide (a < 2) = true := decide_eq_true h0
    clear hr h0
    go_enter Try.func18, Try.ntmps18
    go_upto_region 4 with (first | (go_at_call 31; (with_reducible refine (S0.out _).mono ?_); rintro e w' ⟨rfl, rfl⟩))
    repeat (first | go_values | go_skip | go_guarded | go_step | go_upon)
    refine bodyPost_ret (v := .tuple #[.agg #[.string ⟨#[]⟩, .int .i64 0, .int .i64 0, .slice none 0 0, .slice none 0 0], .int .i64 2]) (by simp [results, Try.results18, go_sem, *]) rfl ⟨rfl, ?_⟩
    (repeat' (first | assumption | exact Below.refl _ _ | exact Below.size (by assumption) | (refine Below.setCell ?_ ?_ _) | (refine Below.alloc ?_ ?_ _) | (refine Below.drew ?_) | (refine below_drewN ?_ _) | (refine Below.trans ?_ (Below.mono ‹Below _ _ _› ?_)) | omega | (simp; done) | (simp; omega) | (simp at *; omega)))
  have t0 : decide (a < 2) = false := decide_eq_false h0
  by_cases h1 : 32768 < a
  · have t1 : decide (32768 < a) = true := decide_eq_true h1
    clear hr h0 h1
    go_enter Try.func18, Try.ntmps18
    go_upto_region 4 with (first | (go_at_call 31; (with_reducible refine (S0.out _).mono ?_); rintro e w' ⟨rfl, rfl⟩))
    repeat (first | go_values | go_skip | go_guarded | go_step | go_upon)
    refine bodyPost_ret (v := .tuple #[.agg #[.string ⟨#[]⟩, .int .i64 0, .int .i64 0, .slice none 0 0, .slice none 0 0], .int .i64 2]) (by simp [results, Try.results18, go_sem, *]) rfl ⟨rfl, ?_⟩
    (repeat' (first | assumption | exact Below.refl _ _ | exact Below.size (by assumption) | (refine Below.setCell ?_ ?_ _) | (refine Below.alloc ?_ ?_ _) | (refine Below.drew ?_) | (refine below_drewN ?_ _) | (refine Below.trans ?_ (Below.mono ‹Below _ _ _› ?_)) | omega | (simp; done) | (simp; omega) | (simp at *; omega)))
  have t1 : decide (32768 < a) = false := decide_eq_false h1
  by_cases h2 : b < 0
  · have t2 : decide (b < 0) = true := decide_eq_true h2
    clear hr h0 h1 h2
    go_enter Try.func18, Try.ntmps18
    go_upto_region 4 with (first | (go_at_call 31; (with_reducible refine (S0.out _).mono ?_); rintro e w' ⟨rfl, rfl⟩))
    repeat (first | go_values | go_skip | go_guarded | go_step | go_upon)
    refine bodyPost_ret (v := .tuple #[.agg #[.string ⟨#[]⟩, .int .i64 0, .int .i64 0, .slice none 0 0, .slice none 0 0], .int .i64 2]) (by simp [results, Try.results18, go_sem, *]) rfl ⟨rfl, ?_⟩
    (repeat' (first | assumption | exact Below.refl _ _ | exact Below.size (by assumption) | (refine Below.setCell ?_ ?_ _) | (refine Below.alloc ?_ ?_ _) | (refine Below.drew ?_) | (refine below_drewN ?_ _) | (refine Below.trans ?_ (Below.mono ‹Below _ _ _› ?_)) | omega | (simp; done) | (simp; omega) | (simp at *; omega)))
  have t2 : decide (b < 0) = false := decide_eq_false h2
  by_cases h3 : 1073741824 < b
  · have t3 : decide (1073741824 < b) = true := decide_eq_true h3
    clear hr h0 h1 h2 h3
    go_enter Try.func18, Try.ntmps18
    go_upto_region 4 with (first | (go_at_call 31; (with_reducible refine (S0.out _).mono ?_); rintro e w' ⟨rfl, rfl⟩))
    repeat (first | go_values | go_skip | go_guarded | go_step | go_upon)
    refine bodyPost_ret (v := .tuple #[.agg #[.string ⟨#[]⟩, .int .i64 0, .int .i64 0, .slice none 0 0, .slice none 0 0], .int .i64 2]) (by simp [results, Try.results18, go_sem, *]) rfl ⟨rfl, ?_⟩
    (repeat' (first | assumption | exact Below.refl _ _ | exact Below.size (by assumption) | (refine Below.setCell ?_ ?_ _) | (refine Below.alloc ?_ ?_ _) | (refine Below.drew ?_) | (refine below_drewN ?_ _) | (refine Below.trans ?_ (Below.mono ‹Below _ _ _› ?_)) | omega | (simp; done) | (simp; omega) | (simp at *; omega)))
  have t3 : decide (1073741824 < b) = false := decide_eq_false h3
  by_cases h4 : c < 2
  · have t4 : decide (c < 2) = true := decide_eq_true h4
    clear hr h0 h1 h2 h3 h4
    go_enter Try.func18, Try.ntmps18
    go_upto_region 4 with (first | (go_at_call 31; (with_reducible refine (S0.out _).mono ?_); rintro e w' ⟨rfl, rfl⟩))
    repeat (first | go_values | go_skip | go_guarded | go_step | go_upon)
    refine bodyPost_ret (v := .tuple #[.agg #[.string ⟨#[]⟩, .int .i64 0, .int .i64 0, .slice none 0 0, .slice none 0 0], .int .i64 2]) (by simp [results, Try.results18, go_sem, *]) rfl ⟨rfl, ?_⟩
    (repeat' (first | assumption | exact Below.refl _ _ | exact Below.size (by assumption) | (refine Below.setCell ?_ ?_ _) | (refine Below.alloc ?_ ?_ _) | (refine Below.drew ?_) | (refine below_drewN ?_ _) | (refine Below.trans ?_ (Below.mono ‹Below _ _ _› ?_)) | omega | (simp; done) | (simp; omega) | (simp at *; omega)))
  have t4 : decide (c < 2) = false := decide_eq_false h4
  by_cases h5 : 100 ≤ c
  · have t5 : decide (100 ≤ c) = true := decide_eq_true h5
    clear hr h0 h1 h2 h3 h4 h5
    go_enter Try.func18, Try.ntmps18
    go_upto_region 4 with (first | (go_at_call 31; (with_reducible refine (S0.out _).mono ?_); rintro e w' ⟨rfl, rfl⟩))
    repeat (first | go_values | go_skip | go_guarded | go_step | go_upon)
    refine bodyPost_ret (v := .tuple #[.agg #[.string ⟨#[]⟩, .int .i64 0, .int .i64 0, .slice none 0 0, .slice none 0 0], .int .i64 2]) (by simp [results, Try.results18, go_sem, *]) rfl ⟨rfl, ?_⟩
    (repeat' (first | assumption | exact Below.refl _ _ | exact Below.size (by assumption) | (refine Below.setCell ?_ ?_ _) | (refine Below.alloc ?_ ?_ _) | (refine Below.drew ?_) | (refine below_drewN ?_ _) | (refine Below.trans ?_ (Below.mono ‹Below _ _ _› ?_)) | omega | (simp; done) | (simp; omega) | (simp at *; omega)))
  have t5 : decide (100 ≤ c) = false := decide_eq_false h5
  have h6 : a < c := by omega
  have t6 : decide (a < c) = true := decide_eq_true h6
  clear hr h0 h1 h2 h3 h4 h5 h6
  go_enter Try.func18, Try.ntmps18
  go_upto_region 4 with (first | (go_at_call 31; (with_reducible refine (S0.out _).mono ?_); rintro e w' ⟨rfl, rfl⟩))
  repeat (first | go_values | go_skip | go_guarded | go_step | go_upon)
  refine bodyPost_ret (v := .tuple #[.agg #[.string ⟨#[]⟩, .int .i64 0, .int .i64 0, .slice none 0 0, .slice none 0 0], .int .i64 2]) (by simp [results, Try.results18, go_sem, *]) rfl ⟨rfl, ?_⟩
  (repeat' (first | assumption | exact Below.refl _ _ | exact Below.size (by assumption) | (refine Below.setCell ?_ ?_ _) | (refine Below.alloc ?_ ?_ _) | (refine Below.drew ?_) | (refine below_drewN ?_ _) | (refine Below.trans ?_ (Below.mono ‹Below _ _ _› ?_)) | omega | (simp; done) | (simp; omega) | (simp at *; omega)))
end Go.Proofs.Ytchapkjloicfnaa

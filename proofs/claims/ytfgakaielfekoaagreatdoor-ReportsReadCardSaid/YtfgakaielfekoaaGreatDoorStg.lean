/- Small functions of package storage and of its reference: within, holds, last, capacity, level. -/
import Derived.Test.YtfgakaielfekoaaGreatDoorNetH
import Derived.Test.YtfgakaielfekoaaGreatDoorSto
namespace Go.Proofs.YtfgakaielfekoaaGreatDoor
open Go.RowKit
set_option linter.unusedVariables false
set_option linter.unusedSimpArgs false

theorem swithin (z lo hi : Int) (w : World) : Calls Tryz.prog 123 #[.int .i64 z, .int .i64 lo, .int .i64 hi] w fun e w' => e = .returned (.bool (decide (lo ≤ z ∧ z ≤ hi))) ∧ w = w' := by
  by_cases h1 : lo ≤ z
  · have t1 : decide (lo ≤ z) = true := decide_eq_true h1
    by_cases h2 : z ≤ hi
    · have t2 : decide (z ≤ hi) = true := decide_eq_true h2
      rw [decide_eq_true (show lo ≤ z ∧ z ≤ hi from ⟨h1, h2⟩)]
      clear h1 h2
      go_enter Tryz.func123, Tryz.ntmps123
      go_wp2_with fail
      go_ret
      exact ⟨rfl, rfl⟩
    · have t2 : decide (z ≤ hi) = false := decide_eq_false h2
      rw [decide_eq_false (show ¬ (lo ≤ z ∧ z ≤ hi) from fun h => h2 h.2)]
      clear h1 h2
      go_enter Tryz.func123, Tryz.ntmps123
      go_wp2_with fail
      go_ret
      exact ⟨rfl, rfl⟩
  · have t1 : decide (lo ≤ z) = false := decide_eq_false h1
    rw [decide_eq_false (show ¬ (lo ≤ z ∧ z ≤ hi) from fun h => h1 h.1)]
    clear h1
    go_enter Tryz.func123, Tryz.ntmps123
    go_wp2_with fail
    go_ret
    exact ⟨rfl, rfl⟩
theorem sholds (z : Int) (w : World) : Calls Tryz.prog 78 #[.int .i64 z] w fun e w' => e = .returned (.bool (decide (0 ≤ z ∧ z ≤ 1125899906842624))) ∧ w = w' := by
  have C := Lib.hid fun w => swithin z 0 1125899906842624 w
  generalize decide (0 ≤ z ∧ z ≤ 1125899906842624) = f at C ⊢
  go_enter Tryz.func78, Tryz.ntmps78
  go_wp2_with (first | (go_at_call 123; (with_reducible refine (C.out _).mono ?_); rintro e w' ⟨rfl, rfl⟩))
  go_ret
  exact ⟨rfl, rfl⟩
theorem rvolume29 (z : Int) (w : World) : Calls Tryz.prog 68 #[.int .i64 z] w fun e w' => e = .returned (.bool (decide (0 ≤ z ∧ z ≤ 1125899906842624))) ∧ w = w' := by
  by_cases h1 : 0 ≤ z
  · have t1 : decide (0 ≤ z) = true := decide_eq_true h1
    by_cases h2 : z ≤ 1125899906842624
    · have t2 : decide (z ≤ 1125899906842624) = true := decide_eq_true h2
      rw [decide_eq_true (show 0 ≤ z ∧ z ≤ 1125899906842624 from ⟨h1, h2⟩)]
      clear h1 h2
      go_enter Tryz.func68, Tryz.ntmps68
      go_wp2_with fail
      go_ret
      exact ⟨rfl, rfl⟩
    · have t2 : decide (z ≤ 1125899906842624) = false := decide_eq_false h2
      rw [decide_eq_false (show ¬ (0 ≤ z ∧ z ≤ 1125899906842624) from fun h => h2 h.2)]
      clear h1 h2
      go_enter Tryz.func68, Tryz.ntmps68
      go_wp2_with fail
      go_ret
      exact ⟨rfl, rfl⟩
  · have t1 : decide (0 ≤ z) = false := decide_eq_false h1
    rw [decide_eq_false (show ¬ (0 ≤ z ∧ z ≤ 1125899906842624) from fun h => h1 h.1)]
    clear h1
    go_enter Tryz.func68, Tryz.ntmps68
    go_wp2_with fail
    go_ret
    exact ⟨rfl, rfl⟩
theorem slast (A : Option Addr) (n c : Nat) (X Y : Nat → Int) (h1 : 1 ≤ n) (h2 : n ≤ 100) (w : World) (ht : TabIn w A n X Y) :
    Calls Tryz.prog 180 #[.slice A n c] w fun e w' => e = .returned (.agg #[.int .i64 (X (n - 1)), .int .i64 (Y (n - 1))]) ∧ Below w.heap.size w w' := by
  obtain ⟨m, rfl⟩ : ∃ m, n = m + 1 := ⟨n - 1, by omega⟩
  rcases ht.2 with h0 | ⟨b, off, rfl, hT⟩
  · omega
  have hb := hT.1
  have l0 := (hT.2 m (by omega)).1
  have l1 := (hT.2 m (by omega)).2
  have e2 : IntKind.i64.wrap ((m : Int) + 1 - 1) = (m : Int) := by rw [IntKind.wrap_i64]; omega
  have e3 : IntKind.i64.wrap (m : Int) = (m : Int) := by rw [IntKind.wrap_i64]; omega
  simp only [Nat.add_sub_cancel]
  clear ht hT
  go_enter Tryz.func180, Tryz.ntmps180
  go_wp2_with fail
  refine bodyPost_ret (v := .agg #[.int .i64 (X m), .int .i64 (Y m)]) (by simp [results, Tryz.results180, go_sem]) rfl ⟨rfl, ?_⟩
  (repeat' (first | assumption | exact Below.refl _ _ | exact Below.size (by assumption) | (refine Below.setCell ?_ ?_ _) | (refine Below.alloc ?_ ?_ _) | (refine Below.drew ?_) | (refine below_drewN ?_ _) | (refine Below.trans ?_ (Below.mono ‹Below _ _ _› ?_)) | omega | (simp; done) | (simp; omega) | (simp at *; omega)))
set_option maxRecDepth 100000 in
theorem scapacity (nm : ByteArray) (kd ax ay iv gd : Int) (A : Option Addr) (n c : Nat) (X Y : Nat → Int) (pt : Bool) (rs : Int) (hk : kd ≠ 3 → 1 ≤ n ∧ n ≤ 100) (w : World) (ht : TabIn w A n X Y) :
    Calls Tryz.prog 145 #[.agg #[.string nm, .int .i64 kd, .int .i64 ax, .int .i64 ay, .int .i64 iv, .int .i64 gd, .slice A n c, .bool pt, .int .i64 rs]] w fun e w' => e = .returned (.int .i64 (if kd = 3 then 0 else Y (n - 1))) ∧ Below w.heap.size w w' := by
  by_cases h3 : kd = 3
  · subst h3
    rw [if_pos rfl]
    clear hk ht
    go_enter Tryz.func145, Tryz.ntmps145
    go_wp2_with fail
    go_ret
    refine ⟨rfl, ?_⟩
    (repeat' (first | assumption | exact Below.refl _ _ | exact Below.size (by assumption) | (refine Below.setCell ?_ ?_ _) | (refine Below.alloc ?_ ?_ _) | (refine Below.drew ?_) | (refine below_drewN ?_ _) | (refine Below.trans ?_ (Below.mono ‹Below _ _ _› ?_)) | omega | (simp; done) | (simp; omega) | (simp at *; omega)))
  · rw [if_neg h3]
    have t1 : (kd == 3) = false := by simpa using h3
    have hfd : ∀ (a b : Value) (w : World), (Instr.field 152 (.agg #[a, b]) 1).run Tryz.prog w = .ok b w := fun a b w => by kernel_rfl
    have C := Lib.hid fun w ht => slast A n c X Y (hk h3).1 (hk h3).2 w ht
    have HT := Lib.hid ht
    clear hk ht h3
    go_enter Tryz.func145, Tryz.ntmps145
    go_wp2_with (first | (go_at_call 180; (with_reducible refine (C.out _ ?_).mono ?_); (focus (exact HT.out.below (Nat.le_refl _) (by (repeat' (first | assumption | exact Below.refl _ _ | exact Below.size (by assumption) | (refine Below.setCell ?_ ?_ _) | (refine Below.alloc ?_ ?_ _) | (refine Below.drew ?_) | (refine below_drewN ?_ _) | (refine Below.trans ?_ (Below.mono ‹Below _ _ _› ?_)) | omega | (simp; done) | (simp; omega) | (simp at *; omega)))))); rintro e w1 ⟨rfl, hb1⟩; obtain ⟨hc1, hf1⟩ := bcell hb1; have hz1 := hb1.size; (try simp at hz1); (try simp only [heap_drew, World.heap_drewN] at hz1); (try simp only [heap_drew, World.heap_drewN] at hc1); (try simp only [heap_drew, World.heap_drewN] at hf1); (try have hs1 := Nat.lt_of_succ_le hz1); (try have hs2 := Nat.lt_of_succ_lt hs1); (try have y0 : w.heap.size < w1.heap.size := by omega); (try have y1 : w.heap.size + 1 < w1.heap.size := by omega); (try have y2 : w.heap.size + 2 < w1.heap.size := by omega)))
    go_ret
    refine ⟨rfl, ?_⟩
    (repeat' (first | assumption | exact Below.refl _ _ | exact Below.size (by assumption) | (refine Below.setCell ?_ ?_ _) | (refine Below.alloc ?_ ?_ _) | (refine Below.drew ?_) | (refine below_drewN ?_ _) | (refine Below.trans ?_ (Below.mono ‹Below _ _ _› ?_)) | omega | (simp; done) | (simp; omega) | (simp at *; omega)))
set_option maxRecDepth 100000 in
theorem rcapacity (nm : ByteArray) (kd ax ay iv gd : Int) (A : Option Addr) (n c : Nat) (X Y : Nat → Int) (pt : Bool) (rs : Int) (hk : kd ≠ 3 → 1 ≤ n ∧ n ≤ 100) (w : World) (ht : TabIn w A n X Y) :
    Calls Tryz.prog 67 #[.agg #[.string nm, .int .i64 kd, .int .i64 ax, .int .i64 ay, .int .i64 iv, .int .i64 gd, .slice A n c, .bool pt, .int .i64 rs]] w fun e w' => e = .returned (.int .i64 (if kd = 3 then 0 else Y (n - 1))) ∧ Below w.heap.size w w' := by
  by_cases h3 : kd = 3
  · subst h3
    rw [if_pos rfl]
    clear hk ht
    go_enter Tryz.func67, Tryz.ntmps67
    go_wp2_with fail
    go_ret
    refine ⟨rfl, ?_⟩
    (repeat' (first | assumption | exact Below.refl _ _ | exact Below.size (by assumption) | (refine Below.setCell ?_ ?_ _) | (refine Below.alloc ?_ ?_ _) | (refine Below.drew ?_) | (refine below_drewN ?_ _) | (refine Below.trans ?_ (Below.mono ‹Below _ _ _› ?_)) | omega | (simp; done) | (simp; omega) | (simp at *; omega)))
  · rw [if_neg h3]
    have t1 : (kd == 3) = false := by simpa using h3
    obtain ⟨h1, h2⟩ := hk h3
    obtain ⟨m, rfl⟩ : ∃ m, n = m + 1 := ⟨n - 1, by omega⟩
    rcases ht.2 with h0 | ⟨b, off, rfl, hT⟩
    · omega
    have hb := hT.1
    have l1 := (hT.2 m (by omega)).2
    have e2 : IntKind.i64.wrap ((m : Int) + 1 - 1) = (m : Int) := by rw [IntKind.wrap_i64]; omega
    have e3 : IntKind.i64.wrap (m : Int) = (m : Int) := by rw [IntKind.wrap_i64]; omega
    simp only [Nat.add_sub_cancel]
    clear ht hT hk h3
    go_enter Tryz.func67, Tryz.ntmps67
    go_wp2_with fail
    go_ret
    refine ⟨rfl, ?_⟩
    (repeat' (first | assumption | exact Below.refl _ _ | exact Below.size (by assumption) | (refine Below.setCell ?_ ?_ _) | (refine Below.alloc ?_ ?_ _) | (refine Below.drew ?_) | (refine below_drewN ?_ _) | (refine Below.trans ?_ (Below.mono ‹Below _ _ _› ?_)) | omega | (simp; done) | (simp; omega) | (simp at *; omega)))
theorem tmostF (b off c m : Nat) (X Y : Nat → Int) (y : Int) (hv : TabOK (m + 1) X Y) (hy : Y 0 ≤ y) (w : World) (ht : TabAt w b off (m + 1) X Y) :
    Calls Tryz.prog 124 #[.slice (some ⟨b, off, none⟩) (m + 1 : Nat) c, .int .i64 y] w fun e w' => e = .returned (.tuple #[.int .i64 (mostF X Y m y), .int .i64 0]) ∧ Below w.heap.size w w' := by
  obtain ⟨v, e, h, hb⟩ := most_both m X Y y hv
  rcases h with ⟨h, rfl⟩ | ⟨h, _⟩
  · rw [most_eq (asc_of hv) h]
    exact (hb b off c w ht).1
  · omega
theorem rmostF (b off c m : Nat) (X Y : Nat → Int) (y : Int) (hv : TabOK (m + 1) X Y) (hy : Y 0 ≤ y) (w : World) (ht : TabAt w b off (m + 1) X Y) :
    Calls Tryz.prog 113 #[.slice (some ⟨b, off, none⟩) (m + 1 : Nat) c, .int .i64 y] w fun e w' => e = .returned (.tuple #[.int .i64 (mostF X Y m y), .bool true]) ∧ Below w.heap.size w w' := by
  obtain ⟨v, e, h, hb⟩ := most_both m X Y y hv
  rcases h with ⟨h, rfl⟩ | ⟨h, _⟩
  · rw [most_eq (asc_of hv) h]
    exact (hb b off c w ht).2
  · omega
theorem most_bd {m : Nat} {X Y : Nat → Int} {y : Int} (hv : TabOK (m + 1) X Y) (hy : Y 0 ≤ y) : -1125899906842624 ≤ mostF X Y m y ∧ mostF X Y m y ≤ 1125899906842624 := by
  have a := most_spec hv hy
  have i := Val.most_in (asc_of hv) a
  have b0 := (in_of hv (k := 0) (by omega)).1
  have b1 := (in_of hv (k := m) (by omega)).1
  omega
/-- What a level needs of a node. -/
def LvOK (kd iv : Int) (n : Nat) (X Y : Nat → Int) (v : Int) : Prop := -4194304 ≤ iv ∧ iv ≤ 4194304 ∧ 0 ≤ v ∧ (kd ≠ 3 → TabOK n X Y ∧ Y 0 = 0)
noncomputable def lvZ (kd iv : Int) (n : Nat) (X Y : Nat → Int) (v : Int) : Int := if kd = 3 then iv else iv + mostF X Y (n - 1) v
set_option maxRecDepth 100000 in
theorem slevel (nm : ByteArray) (kd ax ay iv gd : Int) (A : Option Addr) (n c : Nat) (X Y : Nat → Int) (pt : Bool) (rs v : Int) (hk : LvOK kd iv n X Y v) (w : World) (ht : TabIn w A n X Y) :
    Calls Tryz.prog 79 #[.agg #[.string nm, .int .i64 kd, .int .i64 ax, .int .i64 ay, .int .i64 iv, .int .i64 gd, .slice A n c, .bool pt, .int .i64 rs], .int .i64 v] w fun e w' => e = .returned (.tuple #[.int .i64 (lvZ kd iv n X Y v), .int .i64 0]) ∧ Below w.heap.size w w' := by
  unfold lvZ
  by_cases h3 : kd = 3
  · subst h3
    rw [if_pos rfl]
    clear hk ht
    go_enter Tryz.func79, Tryz.ntmps79
    go_wp2_with fail
    go_ret2
    refine ⟨rfl, ?_⟩
    (repeat' (first | assumption | exact Below.refl _ _ | exact Below.size (by assumption) | (refine Below.setCell ?_ ?_ _) | (refine Below.alloc ?_ ?_ _) | (refine Below.drew ?_) | (refine below_drewN ?_ _) | (refine Below.trans ?_ (Below.mono ‹Below _ _ _› ?_)) | omega | (simp; done) | (simp; omega) | (simp at *; omega)))
  · rw [if_neg h3]
    have t1 : (kd == 3) = false := by simpa using h3
    obtain ⟨i1, i2, v0, hk⟩ := hk
    obtain ⟨hv, hy⟩ := hk h3
    obtain ⟨m, rfl⟩ : ∃ m, n = m + 1 := ⟨n - 1, by have := hv.1; omega⟩
    rcases ht.2 with h0 | ⟨b, off, rfl, hT⟩
    · omega
    have C := Lib.hid fun w ht => tmostF b off c m X Y v hv (by omega) w ht
    have hbd := most_bd (y := v) hv (by omega)
    simp only [Nat.add_sub_cancel]
    have hb := hT.1
    have HT := Lib.hid hT
    generalize mostF X Y m v = z at C hbd ⊢
    have e1 : IntKind.i64.wrap (iv + z) = iv + z := by rw [IntKind.wrap_i64]; omega
    clear ht hT hk h3 hv hy
    go_enter Tryz.func79, Tryz.ntmps79
    go_wp2_with (first | (go_at_call 124; (with_reducible refine (C.out _ ?_).mono ?_); (focus (exact HT.out.below ((Below.refl _ _).alloc (Nat.le_refl _) _) (by omega))); rintro e w1 ⟨rfl, hb1⟩; obtain ⟨hc1, hf1⟩ := bcell hb1; have hz1 := hb1.size; (try simp at hz1); (try simp only [heap_drew, World.heap_drewN] at hz1); (try simp only [heap_drew, World.heap_drewN] at hc1); (try simp only [heap_drew, World.heap_drewN] at hf1); (try have hs1 := Nat.lt_of_succ_le hz1); (try have hs2 := Nat.lt_of_succ_lt hs1); (try have y0 : w.heap.size < w1.heap.size := by omega); (try have y1 : w.heap.size + 1 < w1.heap.size := by omega); (try have y2 : w.heap.size + 2 < w1.heap.size := by omega); (try have yb : b < w1.heap.size := by omega)))
    go_ret2
    refine ⟨rfl, ?_⟩
    (repeat' (first | assumption | exact Below.refl _ _ | exact Below.size (by assumption) | (refine Below.setCell ?_ ?_ _) | (refine Below.alloc ?_ ?_ _) | (refine Below.drew ?_) | (refine below_drewN ?_ _) | (refine Below.trans ?_ (Below.mono ‹Below _ _ _› ?_)) | omega | (simp; done) | (simp; omega) | (simp at *; omega)))
set_option maxRecDepth 100000 in
theorem rlevel29 (nm : ByteArray) (kd ax ay iv gd : Int) (A : Option Addr) (n c : Nat) (X Y : Nat → Int) (pt : Bool) (rs v : Int) (hk : LvOK kd iv n X Y v) (w : World) (ht : TabIn w A n X Y) :
    Calls Tryz.prog 70 #[.agg #[.string nm, .int .i64 kd, .int .i64 ax, .int .i64 ay, .int .i64 iv, .int .i64 gd, .slice A n c, .bool pt, .int .i64 rs], .int .i64 v] w fun e w' => e = .returned (.int .i64 (lvZ kd iv n X Y v)) ∧ Below w.heap.size w w' := by
  unfold lvZ
  by_cases h3 : kd = 3
  · subst h3
    rw [if_pos rfl]
    clear hk ht
    go_enter Tryz.func70, Tryz.ntmps70
    go_wp2_with fail
    go_ret
    refine ⟨rfl, ?_⟩
    (repeat' (first | assumption | exact Below.refl _ _ | exact Below.size (by assumption) | (refine Below.setCell ?_ ?_ _) | (refine Below.alloc ?_ ?_ _) | (refine Below.drew ?_) | (refine below_drewN ?_ _) | (refine Below.trans ?_ (Below.mono ‹Below _ _ _› ?_)) | omega | (simp; done) | (simp; omega) | (simp at *; omega)))
  · rw [if_neg h3]
    have t1 : (kd == 3) = false := by simpa using h3
    obtain ⟨i1, i2, v0, hk⟩ := hk
    obtain ⟨hv, hy⟩ := hk h3
    obtain ⟨m, rfl⟩ : ∃ m, n = m + 1 := ⟨n - 1, by have := hv.1; omega⟩
    rcases ht.2 with h0 | ⟨b, off, rfl, hT⟩
    · omega
    have C := Lib.hid fun w ht => rmostF b off c m X Y v hv (by omega) w ht
    have hbd := most_bd (y := v) hv (by omega)
    simp only [Nat.add_sub_cancel]
    have hb := hT.1
    have HT := Lib.hid hT
    generalize mostF X Y m v = z at C hbd ⊢
    have e1 : IntKind.i64.wrap (iv + z) = iv + z := by rw [IntKind.wrap_i64]; omega
    clear ht hT hk h3 hv hy
    go_enter Tryz.func70, Tryz.ntmps70
    go_wp2_with (first | (go_at_call 113; (with_reducible refine (C.out _ ?_).mono ?_); (focus (exact HT.out.below ((Below.refl _ _).alloc (Nat.le_refl _) _) (by omega))); rintro e w1 ⟨rfl, hb1⟩; obtain ⟨hc1, hf1⟩ := bcell hb1; have hz1 := hb1.size; (try simp at hz1); (try simp only [heap_drew, World.heap_drewN] at hz1); (try simp only [heap_drew, World.heap_drewN] at hc1); (try simp only [heap_drew, World.heap_drewN] at hf1); (try have hs1 := Nat.lt_of_succ_le hz1); (try have hs2 := Nat.lt_of_succ_lt hs1); (try have y0 : w.heap.size < w1.heap.size := by omega); (try have y1 : w.heap.size + 1 < w1.heap.size := by omega); (try have y2 : w.heap.size + 2 < w1.heap.size := by omega); (try have yb : b < w1.heap.size := by omega)))
    go_ret
    refine ⟨rfl, ?_⟩
    (repeat' (first | assumption | exact Below.refl _ _ | exact Below.size (by assumption) | (refine Below.setCell ?_ ?_ _) | (refine Below.alloc ?_ ?_ _) | (refine Below.drew ?_) | (refine below_drewN ?_ _) | (refine Below.trans ?_ (Below.mono ‹Below _ _ _› ?_)) | omega | (simp; done) | (simp; omega) | (simp at *; omega)))
end Go.Proofs.YtfgakaielfekoaaGreatDoor

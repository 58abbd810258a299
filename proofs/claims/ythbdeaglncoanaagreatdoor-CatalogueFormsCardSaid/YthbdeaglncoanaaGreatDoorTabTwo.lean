/- Tables: whether a table is valid, at every length, by the package and by the reference. -/
import Derived.Test.YthbdeaglncoanaaGreatDoorTab
namespace Go.Proofs.YthbdeaglncoanaaGreatDoor
open Go.RowKit
set_option linter.unusedVariables false
set_option linter.unusedSimpArgs false

set_option maxHeartbeats 4000000 in
theorem rvalid (b off n c : Nat) (X Y : Nat → Int) (w : World) (h1 : 1 ≤ n) (h2 : n ≤ 100) (ht : TabAt w b off n X Y) :
    Calls Tryz.prog 62 #[.slice (some ⟨b, off, none⟩) n c] w fun e w' => e = .returned (.bool (tabB n X Y)) ∧ Below w.heap.size w w' := by
  have HT := Lib.hid ht
  have hb := ht.1
  clear ht
  go_enter Tryz.func62, Tryz.ntmps62
  go_wp2
  go_loopw [3] (fun i wr => ∃ k : Nat, k ≤ n ∧ i = .int .i64 k ∧ Hid (∀ j, j < k → goodAt X Y j) ∧ Below w.heap.size w wr) (fun i _ => n - (intOf i).toNat)
  case atStart => exact ⟨0, Nat.zero_le _, rfl, fun j hj => absurd hj (Nat.not_lt_zero _), Below.refl _ _⟩
  case round =>
    obtain ⟨k, hk, rfl, hg, hbw⟩ := hrel
    by_cases hlt : k < n
    · have hT := HT.out.below hbw hb
      have hcx := (hT.2 k hlt).1
      have hcy := (hT.2 k hlt).2
      have hbwr := hT.1
      have HT' := Lib.hid hT
      clear hT
      by_cases hx : inB (X k)
      · have tx := betw_true hx
        by_cases hy : inB (Y k)
        · have ty := betw_true hy
          by_cases hk0 : k = 0
          · have t0 : decide ((0 : Int) < (k : Int)) = false := by simp <;> omega
            have t0' : decide (0 < k) = false := by simp <;> omega
            have HG : Hid (∀ j, j < k + 1 → goodAt X Y j) := good_step hg.out ⟨hx, hy, fun h => absurd h (by omega)⟩
            have H0 := Lib.hid hk0
            clear hk0
            go_wp2_with (go_at_call 77; (with_reducible refine (rnumber _ _).mono ?_); rintro e w' ⟨rfl, rfl⟩)
            go_quiet (fail)
            go_wp2
            go_roundw
            case rel => exact ⟨k + 1, by omega, by go_num, HG, by (repeat' (first | assumption | exact Below.refl _ _ | exact Below.size (by assumption) | (refine Below.setCell ?_ ?_ _) | (refine Below.alloc ?_ ?_ _) | (refine Below.drew ?_) | (refine below_drewN ?_ _) | (refine Below.trans ?_ (Below.mono ‹Below _ _ _› ?_)) | omega | (simp; done) | (simp; omega) | (simp at *; omega)))⟩
            case measure => simp [intOf]; omega
          · obtain ⟨p, rfl⟩ : ∃ p, k = p + 1 := ⟨k - 1, by omega⟩
            have hkp := HT'.out.2 p (by omega)
            have hpx := hkp.1
            have hpy := hkp.2
            clear hkp
            have t0 : decide ((0 : Int) < (p : Int) + 1) = true := by simp <;> omega
            have e1 : IntKind.i64.wrap ((p : Int) + 1 - 1) = (p : Int) := by rw [IntKind.wrap_i64]; omega
            have e2 : IntKind.i64.wrap (p : Int) = (p : Int) := by rw [IntKind.wrap_i64]; omega
            have l1 : p < n := by omega
            have l2 : (p : Int) < (n : Int) := by omega
            clear hk0
            by_cases h3 : X p < X (p + 1)
            · have t3 : decide (X (p + 1) ≤ X p) = false := by simp <;> omega
              by_cases h4 : Y p ≤ Y (p + 1)
              · have t4 : decide (Y (p + 1) < Y p) = false := by simp <;> omega
                have HG : Hid (∀ j, j < p + 1 + 1 → goodAt X Y j) := good_step hg.out ⟨hx, hy, fun h => ⟨h3, h4⟩⟩
                clear h3 h4
                go_wp2_with (go_at_call 77; (with_reducible refine (rnumber _ _).mono ?_); rintro e w' ⟨rfl, rfl⟩)
                go_quiet (fail)
                go_wp2
                go_roundw
                case rel => exact ⟨p + 1 + 1, by omega, by go_num, HG, by (repeat' (first | assumption | exact Below.refl _ _ | exact Below.size (by assumption) | (refine Below.setCell ?_ ?_ _) | (refine Below.alloc ?_ ?_ _) | (refine Below.drew ?_) | (refine below_drewN ?_ _) | (refine Below.trans ?_ (Below.mono ‹Below _ _ _› ?_)) | omega | (simp; done) | (simp; omega) | (simp at *; omega)))⟩
                case measure => simp [intOf]; omega
              · have t4 : decide (Y (p + 1) < Y p) = true := by simp <;> omega
                have HB : Hid (tabB n X Y = false) := bad_tab hlt fun h => h4 (h.2.2 (by omega)).2
                clear h3 h4
                go_wp2_with (go_at_call 77; (with_reducible refine (rnumber _ _).mono ?_); rintro e w' ⟨rfl, rfl⟩)
                go_quiet (fail)
                go_wp2
                go_ret
                exact ⟨ret_bool HB.out.symm, by (repeat' (first | assumption | exact Below.refl _ _ | exact Below.size (by assumption) | (refine Below.setCell ?_ ?_ _) | (refine Below.alloc ?_ ?_ _) | (refine Below.drew ?_) | (refine below_drewN ?_ _) | (refine Below.trans ?_ (Below.mono ‹Below _ _ _› ?_)) | omega | (simp; done) | (simp; omega) | (simp at *; omega)))⟩
            · have t3 : decide (X (p + 1) ≤ X p) = true := by simp <;> omega
              have HB : Hid (tabB n X Y = false) := bad_tab hlt fun h => h3 (h.2.2 (by omega)).1
              clear h3
              go_wp2_with (go_at_call 77; (with_reducible refine (rnumber _ _).mono ?_); rintro e w' ⟨rfl, rfl⟩)
              go_quiet (fail)
              go_wp2
              go_ret
              exact ⟨ret_bool HB.out.symm, by (repeat' (first | assumption | exact Below.refl _ _ | exact Below.size (by assumption) | (refine Below.setCell ?_ ?_ _) | (refine Below.alloc ?_ ?_ _) | (refine Below.drew ?_) | (refine below_drewN ?_ _) | (refine Below.trans ?_ (Below.mono ‹Below _ _ _› ?_)) | omega | (simp; done) | (simp; omega) | (simp at *; omega)))⟩
        · have ty := betw_false hy
          have HB : Hid (tabB n X Y = false) := bad_tab hlt fun h => hy h.2.1
          go_wp2_with (go_at_call 77; (with_reducible refine (rnumber _ _).mono ?_); rintro e w' ⟨rfl, rfl⟩)
          go_ret
          exact ⟨ret_bool HB.out.symm, by (repeat' (first | assumption | exact Below.refl _ _ | exact Below.size (by assumption) | (refine Below.setCell ?_ ?_ _) | (refine Below.alloc ?_ ?_ _) | (refine Below.drew ?_) | (refine below_drewN ?_ _) | (refine Below.trans ?_ (Below.mono ‹Below _ _ _› ?_)) | omega | (simp; done) | (simp; omega) | (simp at *; omega)))⟩
      · have tx := betw_false hx
        have HB : Hid (tabB n X Y = false) := bad_tab hlt fun h => hx h.1
        go_wp2_with (go_at_call 77; (with_reducible refine (rnumber _ _).mono ?_); rintro e w' ⟨rfl, rfl⟩)
        go_ret
        exact ⟨ret_bool HB.out.symm, by (repeat' (first | assumption | exact Below.refl _ _ | exact Below.size (by assumption) | (refine Below.setCell ?_ ?_ _) | (refine Below.alloc ?_ ?_ _) | (refine Below.drew ?_) | (refine below_drewN ?_ _) | (refine Below.trans ?_ (Below.mono ‹Below _ _ _› ?_)) | omega | (simp; done) | (simp; omega) | (simp at *; omega)))⟩
    · obtain rfl : k = n := by omega
      go_wp2
      go_ret
      exact ⟨ret_bool (tabB_true ⟨h1, h2, hg.out⟩).symm, hbw⟩

/-- A slice of knots, of whatever length. -/
def TabIn (w : World) (A : Option Addr) (n : Nat) (X Y : Nat → Int) : Prop := n ≤ 9223372036854775807 ∧ (n = 0 ∨ ∃ b off, A = some ⟨b, off, none⟩ ∧ TabAt w b off n X Y)
theorem TabIn.below {w w' : World} {B n : Nat} {A : Option Addr} {X Y : Nat → Int} (h : TabIn w A n X Y) (hB : w.heap.size ≤ B) (hb : Below B w w') : TabIn w' A n X Y := by
  refine ⟨h.1, ?_⟩
  rcases h.2 with h0 | ⟨b, off, hA, ht⟩
  · exact .inl h0
  · exact .inr ⟨b, off, hA, ht.below hb (Nat.lt_of_lt_of_le ht.1 hB)⟩

theorem tvalid_out (A : Option Addr) (n c : Nat) (hn : n ≤ 9223372036854775807) (h : n = 0 ∨ 100 < n) (w : World) :
    Calls Tryz.prog 44 #[.slice A n c] w fun e w' => e = .returned (.bool false) ∧ w = w' := by
  rcases h with rfl | h
  · go_enter Tryz.func44, Tryz.ntmps44
    go_wp2
    all_goals (go_ret; exact ⟨rfl, rfl⟩)
  · go_enter Tryz.func44, Tryz.ntmps44
    go_wp2
    all_goals (go_ret; exact ⟨rfl, rfl⟩)
theorem rvalid_out (A : Option Addr) (n c : Nat) (hn : n ≤ 9223372036854775807) (h : n = 0 ∨ 100 < n) (w : World) :
    Calls Tryz.prog 62 #[.slice A n c] w fun e w' => e = .returned (.bool false) ∧ w = w' := by
  rcases h with rfl | h
  · go_enter Tryz.func62, Tryz.ntmps62
    go_wp2
    all_goals (go_ret; exact ⟨rfl, rfl⟩)
  · go_enter Tryz.func62, Tryz.ntmps62
    go_wp2
    all_goals (go_ret; exact ⟨rfl, rfl⟩)
theorem tvalid_any (A : Option Addr) (n c : Nat) (X Y : Nat → Int) (w : World) (h : TabIn w A n X Y) :
    Calls Tryz.prog 44 #[.slice A n c] w fun e w' => e = .returned (.bool (tabB n X Y)) ∧ Below w.heap.size w w' := by
  by_cases hn : 1 ≤ n ∧ n ≤ 100
  · rcases h.2 with h0 | ⟨b, off, rfl, ht⟩
    · omega
    · exact tvalid b off n c X Y w hn.1 hn.2 ht
  · rw [tabB_false (fun h => hn ⟨h.1, h.2.1⟩)]
    exact (tvalid_out A n c h.1 (by omega) w).mono fun e w' ⟨h1, h2⟩ => ⟨h1, h2 ▸ Below.refl _ _⟩
theorem rvalid_any (A : Option Addr) (n c : Nat) (X Y : Nat → Int) (w : World) (h : TabIn w A n X Y) :
    Calls Tryz.prog 62 #[.slice A n c] w fun e w' => e = .returned (.bool (tabB n X Y)) ∧ Below w.heap.size w w' := by
  by_cases hn : 1 ≤ n ∧ n ≤ 100
  · rcases h.2 with h0 | ⟨b, off, rfl, ht⟩
    · omega
    · exact rvalid b off n c X Y w hn.1 hn.2 ht
  · rw [tabB_false (fun h => hn ⟨h.1, h.2.1⟩)]
    exact (rvalid_out A n c h.1 (by omega) w).mono fun e w' ⟨h1, h2⟩ => ⟨h1, h2 ▸ Below.refl _ _⟩
end Go.Proofs.YthbdeaglncoanaaGreatDoor

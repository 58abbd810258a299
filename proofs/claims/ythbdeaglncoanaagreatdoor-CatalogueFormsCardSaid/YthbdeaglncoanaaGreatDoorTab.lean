/- Tables: whether a table is valid, by the package and by the reference. -/
import Derived.Test.YthbdeaglncoanaaGreatDoorBase
import Derived.Test.YthbdeaglncoanaaGreatDoorLeaf
import Derived.Deep.LoopGhost
import Derived.LoopTactic
import Derived.RegionTactic
namespace Go.Proofs.YthbdeaglncoanaaGreatDoor
open Go.RowKit
set_option linter.unusedVariables false
set_option linter.unusedSimpArgs false

/-- A slice of knots in memory: n knots from the address on, abscissae X, ordinates Y. -/
def TabAt (w : World) (b off n : Nat) (X Y : Nat → Int) : Prop := b < w.heap.size ∧ ∀ k, k < n → w.cell? ⟨b, off + k * 2, none⟩ = some (.int .i64 (X k)) ∧ w.cell? ⟨b, off + k * 2 + 1, none⟩ = some (.int .i64 (Y k))
theorem TabAt.below {w w' : World} {B b off n : Nat} {X Y : Nat → Int} (h : TabAt w b off n X Y) (hb : Below B w w') (hB : b < B) : TabAt w' b off n X Y :=
  ⟨Nat.lt_of_lt_of_le h.1 hb.size, fun k hk => ⟨(hb.cell (p := ⟨b, off + k * 2, none⟩) hB).trans (h.2 k hk).1, (hb.cell (p := ⟨b, off + k * 2 + 1, none⟩) hB).trans (h.2 k hk).2⟩⟩

def inB (x : Int) : Prop := -1125899906842624 ≤ x ∧ x ≤ 1125899906842624
def goodAt (X Y : Nat → Int) (k : Nat) : Prop := inB (X k) ∧ inB (Y k) ∧ (0 < k → X (k - 1) < X k ∧ Y (k - 1) ≤ Y k)
def TabOK (n : Nat) (X Y : Nat → Int) : Prop := 1 ≤ n ∧ n ≤ 100 ∧ ∀ k, k < n → goodAt X Y k
noncomputable def tabB (n : Nat) (X Y : Nat → Int) : Bool := @decide (TabOK n X Y) (Classical.propDecidable _)
theorem tabB_true {n : Nat} {X Y : Nat → Int} (h : TabOK n X Y) : tabB n X Y = true := by unfold tabB; exact @decide_eq_true _ (Classical.propDecidable _) h
theorem tabB_false {n : Nat} {X Y : Nat → Int} (h : ¬ TabOK n X Y) : tabB n X Y = false := by unfold tabB; exact @decide_eq_false _ (Classical.propDecidable _) h

theorem quiet_left {P : Program} {f : FuncId} {args : Array Value} {w : World} {n : Nat} {v : Value}
    (h : Calls P f args (w.drewN n) fun e w' => e = .returned v ∧ w.drewN n = w') : Calls P f args (w.drewN n) fun e w'' => e = .returned v ∧ ∃ m, w'' = w.drewN m :=
  h.mono fun _ _ ⟨he, hm⟩ => ⟨he, n, hm.symm⟩
theorem betw_true {n : Int} (h : inB n) : betw (-1125899906842624) n 1125899906842624 = true := by unfold inB at h; simp [betw]; omega
theorem betw_false {n : Int} (h : ¬ inB n) : betw (-1125899906842624) n 1125899906842624 = false := by
  cases hb : betw (-1125899906842624) n 1125899906842624 with
  | false => rfl
  | true => exact absurd (by unfold inB; simp [betw] at hb; omega) h
theorem good_step {X Y : Nat → Int} {k : Nat} (h : ∀ j, j < k → goodAt X Y j) (hk : goodAt X Y k) : ∀ j, j < k + 1 → goodAt X Y j := fun j hj => by
  rcases Nat.lt_succ_iff_lt_or_eq.1 hj with h1 | rfl
  · exact h j h1
  · exact hk
theorem bad_tab {X Y : Nat → Int} {n k : Nat} (hk : k < n) (h : ¬ goodAt X Y k) : tabB n X Y = false := tabB_false fun ⟨_, _, h3⟩ => h (h3 k hk)

set_option maxHeartbeats 4000000 in
theorem tvalid (b off n c : Nat) (X Y : Nat → Int) (w : World) (h1 : 1 ≤ n) (h2 : n ≤ 100) (ht : TabAt w b off n X Y) :
    Calls Tryz.prog 44 #[.slice (some ⟨b, off, none⟩) n c] w fun e w' => e = .returned (.bool (tabB n X Y)) ∧ Below w.heap.size w w' := by
  have HT := Lib.hid ht
  have hb := ht.1
  clear ht
  go_enter Tryz.func44, Tryz.ntmps44
  go_wp2
  go_loopw [15] (fun i wr => ∃ k : Nat, k ≤ n ∧ i = .int .i64 k ∧ Hid (∀ j, j < k → goodAt X Y j) ∧ Below w.heap.size w wr) (fun i _ => n - (intOf i).toNat)
  case atStart => exact ⟨0, Nat.zero_le _, rfl, fun j hj => absurd hj (Nat.not_lt_zero _), Below.refl _ _⟩
  case round =>
    obtain ⟨k, hk, rfl, hg, hbw⟩ := hrel
    by_cases hlt : k < n
    · have hT := HT.out.below hbw hb
      have hcx := (hT.2 k hlt).1
      have hcy := (hT.2 k hlt).2
      have hbwr := hT.1
      have HT' := Lib.hid hT
      clear hT
      by_cases hx : inB (X k)
      · have tx := betw_true hx
        by_cases hy : inB (Y k)
        · have ty := betw_true hy
          by_cases hk0 : k = 0
          · have t0 : decide ((0 : Int) < (k : Int)) = false := by simp <;> omega
            have t0' : decide (0 < k) = false := by simp <;> omega
            have HG : Hid (∀ j, j < k + 1 → goodAt X Y j) := good_step hg.out ⟨hx, hy, fun h => absurd h (by omega)⟩
            have H0 := Lib.hid hk0
            clear hk0
            go_wp2
            go_quiet ((go_at_call 63; exact quiet_left (tfits _ _)))
            go_wp2
            go_roundw
            case rel => exact ⟨k + 1, by omega, by go_num, HG, by (repeat' (first | assumption | exact Below.refl _ _ | exact Below.size (by assumption) | (refine Below.setCell ?_ ?_ _) | (refine Below.alloc ?_ ?_ _) | (refine Below.drew ?_) | (refine below_drewN ?_ _) | (refine Below.trans ?_ (Below.mono ‹Below _ _ _› ?_)) | omega | (simp; done) | (simp; omega) | (simp at *; omega)))⟩
            case measure => simp [intOf]; omega
          · obtain ⟨p, rfl⟩ : ∃ p, k = p + 1 := ⟨k - 1, by omega⟩
            have hkp := HT'.out.2 p (by omega)
            have hpx := hkp.1
            have hpy := hkp.2
            clear hkp
            have t0 : decide ((0 : Int) < (p : Int) + 1) = true := by simp <;> omega
            have e1 : IntKind.i64.wrap ((p : Int) + 1 - 1) = (p : Int) := by rw [IntKind.wrap_i64]; omega
            have e2 : IntKind.i64.wrap (p : Int) = (p : Int) := by rw [IntKind.wrap_i64]; omega
            have l1 : p < n := by omega
            have l2 : (p : Int) < (n : Int) := by omega
            clear hk0
            by_cases h3 : X p < X (p + 1)
            · have t3 : decide (X (p + 1) ≤ X p) = false := by simp <;> omega
              by_cases h4 : Y p ≤ Y (p + 1)
              · have t4 : decide (Y (p + 1) < Y p) = false := by simp <;> omega
                have HG : Hid (∀ j, j < p + 1 + 1 → goodAt X Y j) := good_step hg.out ⟨hx, hy, fun h => ⟨h3, h4⟩⟩
                clear h3 h4
                go_wp2
                go_quiet ((go_at_call 63; exact quiet_left (tfits _ _)))
                go_wp2
                go_roundw
                case rel => exact ⟨p + 1 + 1, by omega, by go_num, HG, by (repeat' (first | assumption | exact Below.refl _ _ | exact Below.size (by assumption) | (refine Below.setCell ?_ ?_ _) | (refine Below.alloc ?_ ?_ _) | (refine Below.drew ?_) | (refine below_drewN ?_ _) | (refine Below.trans ?_ (Below.mono ‹Below _ _ _› ?_)) | omega | (simp; done) | (simp; omega) | (simp at *; omega)))⟩
                case measure => simp [intOf]; omega
              · have t4 : decide (Y (p + 1) < Y p) = true := by simp <;> omega
                have HB : Hid (tabB n X Y = false) := bad_tab hlt fun h => h4 (h.2.2 (by omega)).2
                clear h3 h4
                go_wp2
                go_quiet ((go_at_call 63; exact quiet_left (tfits _ _)))
                go_wp2
                go_ret
                exact ⟨ret_bool HB.out.symm, by (repeat' (first | assumption | exact Below.refl _ _ | exact Below.size (by assumption) | (refine Below.setCell ?_ ?_ _) | (refine Below.alloc ?_ ?_ _) | (refine Below.drew ?_) | (refine below_drewN ?_ _) | (refine Below.trans ?_ (Below.mono ‹Below _ _ _› ?_)) | omega | (simp; done) | (simp; omega) | (simp at *; omega)))⟩
            · have t3 : decide (X (p + 1) ≤ X p) = true := by simp <;> omega
              have HB : Hid (tabB n X Y = false) := bad_tab hlt fun h => h3 (h.2.2 (by omega)).1
              clear h3
              go_wp2
              go_quiet ((go_at_call 63; exact quiet_left (tfits _ _)))
              go_wp2
              go_ret
              exact ⟨ret_bool HB.out.symm, by (repeat' (first | assumption | exact Below.refl _ _ | exact Below.size (by assumption) | (refine Below.setCell ?_ ?_ _) | (refine Below.alloc ?_ ?_ _) | (refine Below.drew ?_) | (refine below_drewN ?_ _) | (refine Below.trans ?_ (Below.mono ‹Below _ _ _› ?_)) | omega | (simp; done) | (simp; omega) | (simp at *; omega)))⟩
        · have ty := betw_false hy
          have HB : Hid (tabB n X Y = false) := bad_tab hlt fun h => hy h.2.1
          go_wp2
          go_quiet ((go_at_call 63; exact quiet_left (tfits _ _)))
          go_wp2
          go_ret
          exact ⟨ret_bool HB.out.symm, by (repeat' (first | assumption | exact Below.refl _ _ | exact Below.size (by assumption) | (refine Below.setCell ?_ ?_ _) | (refine Below.alloc ?_ ?_ _) | (refine Below.drew ?_) | (refine below_drewN ?_ _) | (refine Below.trans ?_ (Below.mono ‹Below _ _ _› ?_)) | omega | (simp; done) | (simp; omega) | (simp at *; omega)))⟩
      · have tx := betw_false hx
        have HB : Hid (tabB n X Y = false) := bad_tab hlt fun h => hx h.1
        go_wp2
        go_quiet ((go_at_call 63; exact quiet_left (tfits _ _)))
        go_wp2
        go_ret
        exact ⟨ret_bool HB.out.symm, by (repeat' (first | assumption | exact Below.refl _ _ | exact Below.size (by assumption) | (refine Below.setCell ?_ ?_ _) | (refine Below.alloc ?_ ?_ _) | (refine Below.drew ?_) | (refine below_drewN ?_ _) | (refine Below.trans ?_ (Below.mono ‹Below _ _ _› ?_)) | omega | (simp; done) | (simp; omega) | (simp at *; omega)))⟩
    · obtain rfl : k = n := by omega
      go_wp2
      go_ret
      exact ⟨ret_bool (tabB_true ⟨h1, h2, hg.out⟩).symm, hbw⟩
end Go.Proofs.YthbdeaglncoanaaGreatDoor

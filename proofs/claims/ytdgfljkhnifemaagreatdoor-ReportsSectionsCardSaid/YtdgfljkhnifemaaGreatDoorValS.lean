/- valid of package reports. -/
import Derived.Test.YtdgfljkhnifemaaGreatDoorHasS
import Derived.Test.YtdgfljkhnifemaaGreatDoorNetV
namespace Go.Proofs.YtdgfljkhnifemaaGreatDoor
open Go.RowKit
set_option linter.unusedVariables false
set_option linter.unusedSimpArgs false

set_option maxRecDepth 100000 in
set_option maxHeartbeats 4000000 in
theorem tvalid55 (NA LA VA : Option Addr) (n nc m lc q qc : Nat) (D : Nds) (K : Lks) (Lo Hi : Nat → Int) (hz : NetSz D n K m) (hq : q ≤ 2000) (w : World) (hD : NdIn w NA n D) (hK : LkIn w LA m K) (hV : TabIn w VA q Lo Hi) :
    Calls Tryz.prog 28 #[.agg #[.slice NA n nc, .slice LA m lc], .slice VA q qc] w fun e w' => e = .returned (.bool (boolOf (vlP D n K m q Lo Hi))) ∧ Below w.heap.size w w' := by
  have HD := Lib.hid hD
  have HK := Lib.hid hK
  have HV := Lib.hid hV
  have sn := fun w hD hK => nvalid NA LA n nc m lc D K hz w hD hK
  by_cases g0 : netP D n K m
  case neg =>
    rw [boolOf_false g0] at sn
    rw [boolOf_false (show ¬ vlP D n K m q Lo Hi from fun h => g0 h.1)]
    have SN := Lib.hid sn
    clear sn g0 hz hq hD hK hV
    go_enter Tryz.func28, Tryz.ntmps28
    go_wp2_with (first
      | (go_at_call 55
         with_reducible refine (SN.out _ ?_ ?_).mono ?_
         focus (exact HD.out.below (Nat.le_refl _) (by (repeat' (first | assumption | exact Below.refl _ _ | exact Below.size (by assumption) | (refine Below.setCell ?_ ?_ _) | (refine Below.alloc ?_ ?_ _) | (refine Below.drew ?_) | (refine below_drewN ?_ _) | (refine Below.trans ?_ (Below.mono ‹Below _ _ _› ?_)) | omega | (simp; done) | (simp; omega) | (simp at *; omega)))))
         focus (exact HK.out.below (Nat.le_refl _) (by (repeat' (first | assumption | exact Below.refl _ _ | exact Below.size (by assumption) | (refine Below.setCell ?_ ?_ _) | (refine Below.alloc ?_ ?_ _) | (refine Below.drew ?_) | (refine below_drewN ?_ _) | (refine Below.trans ?_ (Below.mono ‹Below _ _ _› ?_)) | omega | (simp; done) | (simp; omega) | (simp at *; omega)))))
         rintro e w1 ⟨rfl, hb1⟩
         have H1 : Hid (Below w.heap.size w w1) := Below.trans (by (repeat' (first | assumption | exact Below.refl _ _ | exact Below.size (by assumption) | (refine Below.setCell ?_ ?_ _) | (refine Below.alloc ?_ ?_ _) | (refine Below.drew ?_) | (refine below_drewN ?_ _) | (refine Below.trans ?_ (Below.mono ‹Below _ _ _› ?_)) | omega | (simp; done) | (simp; omega) | (simp at *; omega)))) (hb1.mono (by simp <;> omega))
         clear hb1))
    go_ret
    exact ⟨rfl, H1.out⟩
  rw [boolOf_true g0] at sn
  have SN := Lib.hid sn
  by_cases g1 : ∃ j, j < q ∧ (fun j => decide (¬ spP (Lo j) (Hi j))) j = true
  case pos =>
    have SV := Lib.hid fun w hV => has_span VA q qc Lo Hi w hq hV true ⟨fun _ => g1, fun _ => rfl⟩
    rw [boolOf_false (show ¬ vlP D n K m q Lo Hi from fun h => by obtain ⟨j, hj, e⟩ := g1; exact (of_decide_eq_true e) (h.2 j hj))]
    clear sn g0 g1 hz hq hD hK hV
    go_enter Tryz.func28, Tryz.ntmps28
    go_wp2_with (first
      | (go_at_call 55
         with_reducible refine (SN.out _ ?_ ?_).mono ?_
         focus (exact HD.out.below (Nat.le_refl _) (by (repeat' (first | assumption | exact Below.refl _ _ | exact Below.size (by assumption) | (refine Below.setCell ?_ ?_ _) | (refine Below.alloc ?_ ?_ _) | (refine Below.drew ?_) | (refine below_drewN ?_ _) | (refine Below.trans ?_ (Below.mono ‹Below _ _ _› ?_)) | omega | (simp; done) | (simp; omega) | (simp at *; omega)))))
         focus (exact HK.out.below (Nat.le_refl _) (by (repeat' (first | assumption | exact Below.refl _ _ | exact Below.size (by assumption) | (refine Below.setCell ?_ ?_ _) | (refine Below.alloc ?_ ?_ _) | (refine Below.drew ?_) | (refine below_drewN ?_ _) | (refine Below.trans ?_ (Below.mono ‹Below _ _ _› ?_)) | omega | (simp; done) | (simp; omega) | (simp at *; omega)))))
         rintro e w1 ⟨rfl, hb1⟩
         have H1 : Hid (Below w.heap.size w w1) := Below.trans (by (repeat' (first | assumption | exact Below.refl _ _ | exact Below.size (by assumption) | (refine Below.setCell ?_ ?_ _) | (refine Below.alloc ?_ ?_ _) | (refine Below.drew ?_) | (refine below_drewN ?_ _) | (refine Below.trans ?_ (Below.mono ‹Below _ _ _› ?_)) | omega | (simp; done) | (simp; omega) | (simp at *; omega)))) (hb1.mono (by simp <;> omega))
         clear hb1)
      | (go_at_call 56
         with_reducible refine (SV.out _ ?_).mono ?_
         focus (exact HV.out.below (Nat.le_refl _) H1.out)
         rintro e w2 ⟨rfl, hb2⟩
         have H2 := Lib.hid (below_step H1.out hb2)
         clear hb2))
    go_ret
    exact ⟨rfl, H2.out⟩
  have SV := Lib.hid fun w hV => has_span VA q qc Lo Hi w hq hV false ⟨fun h => (by cases h), fun h => absurd h g1⟩
  rw [boolOf_true (show vlP D n K m q Lo Hi from ⟨g0, fun j hj => Classical.byContradiction fun h => g1 ⟨j, hj, decide_eq_true h⟩⟩)]
  clear sn g0 g1 hz hq hD hK hV
  go_enter Tryz.func28, Tryz.ntmps28
  go_wp2_with (first
    | (go_at_call 55
       with_reducible refine (SN.out _ ?_ ?_).mono ?_
       focus (exact HD.out.below (Nat.le_refl _) (by (repeat' (first | assumption | exact Below.refl _ _ | exact Below.size (by assumption) | (refine Below.setCell ?_ ?_ _) | (refine Below.alloc ?_ ?_ _) | (refine Below.drew ?_) | (refine below_drewN ?_ _) | (refine Below.trans ?_ (Below.mono ‹Below _ _ _› ?_)) | omega | (simp; done) | (simp; omega) | (simp at *; omega)))))
       focus (exact HK.out.below (Nat.le_refl _) (by (repeat' (first | assumption | exact Below.refl _ _ | exact Below.size (by assumption) | (refine Below.setCell ?_ ?_ _) | (refine Below.alloc ?_ ?_ _) | (refine Below.drew ?_) | (refine below_drewN ?_ _) | (refine Below.trans ?_ (Below.mono ‹Below _ _ _› ?_)) | omega | (simp; done) | (simp; omega) | (simp at *; omega)))))
       rintro e w1 ⟨rfl, hb1⟩
       have H1 : Hid (Below w.heap.size w w1) := Below.trans (by (repeat' (first | assumption | exact Below.refl _ _ | exact Below.size (by assumption) | (refine Below.setCell ?_ ?_ _) | (refine Below.alloc ?_ ?_ _) | (refine Below.drew ?_) | (refine below_drewN ?_ _) | (refine Below.trans ?_ (Below.mono ‹Below _ _ _› ?_)) | omega | (simp; done) | (simp; omega) | (simp at *; omega)))) (hb1.mono (by simp <;> omega))
       clear hb1)
    | (go_at_call 56
       with_reducible refine (SV.out _ ?_).mono ?_
       focus (exact HV.out.below (Nat.le_refl _) H1.out)
       rintro e w2 ⟨rfl, hb2⟩
       have H2 := Lib.hid (below_step H1.out hb2)
       clear hb2))
  go_ret
  exact ⟨rfl, H2.out⟩
end Go.Proofs.YtdgfljkhnifemaaGreatDoor

/- The velocity of the capacity at a depth, by the package. -/
import Derived.Test.YtchapkjloicfnaaArea
namespace Go.Proofs.Ytchapkjloicfnaa
open Go.RowKit
set_option linter.unusedVariables false
set_option linter.unusedSimpArgs false

/-- The area of a section at a depth, rounded down and up. -/
def areaLo (na : Nat) (X Y : Nat → Int) (x : Int) : Nat := (Val.val X Y (na - 1) x).toNat
def areaHi (na : Nat) (X Y : Nat → Int) (x : Int) : Nat := (Val.cl X Y (na - 1) x).toNat
theorem area_spec {m : Nat} {X Y : Nat → Int} {x : Int} (hv : TabOK (m + 1) X Y) (h0 : Y 0 = 0) (h1 : Y m ≤ 1073741824) :
    Val.val X Y m x = (areaLo (m + 1) X Y x : Int) ∧ Val.cl X Y m x = (areaHi (m + 1) X Y x : Int) ∧ areaLo (m + 1) X Y x ≤ areaHi (m + 1) X Y x ∧ areaHi (m + 1) X Y x ≤ areaLo (m + 1) X Y x + 1 ∧ areaLo (m + 1) X Y x ≤ 1073741824 := by
  have g1 := Val.val_ge (x := x) (asc_of hv)
  have g2 := Val.val_le (x := x) (asc_of hv)
  have e1 : areaLo (m + 1) X Y x = (Val.val X Y m x).toNat := rfl
  have e2 : areaHi (m + 1) X Y x = (Val.cl X Y m x).toNat := rfl
  have e3 : Val.cl X Y m x = Val.val X Y m x + if 0 < Val.rst X Y m x then 1 else 0 := rfl
  rw [e1, e2]
  by_cases h : 0 < Val.rst X Y m x
  · rw [if_pos h] at e3; omega
  · rw [if_neg h] at e3; omega
/-- What Velocity answers, from what Capacity answers and the area. -/
def VelIs (Q e' : Int) (q U V : Nat) (a b e : Int) : Prop :=
  (e' ≠ 0 ∧ a = 0 ∧ b = 0 ∧ e = e') ∨ (e' = 0 ∧ U = 0 ∧ a = 0 ∧ b = 0 ∧ e = 16) ∨ (e' = 0 ∧ 0 < U ∧ Q = q ∧ a = ((1000 * q / V : Nat) : Int) ∧ b = (((1000 * q + U - 1) / U : Nat) : Int) ∧ e = 0)
theorem velIs_ex {Q e' : Int} {q : Nat} (U V : Nat) (h : e' = 0 → Q = q) : ∃ a b e, VelIs Q e' q U V a b e := by
  by_cases h1 : e' = 0
  · by_cases h2 : U = 0
    · exact ⟨0, 0, 16, .inr (.inl ⟨h1, h2, rfl, rfl, rfl⟩)⟩
    · exact ⟨_, _, _, .inr (.inr ⟨h1, by omega, h h1, rfl, rfl, rfl⟩)⟩
  · exact ⟨0, 0, e', .inl ⟨h1, rfl, rfl, rfl⟩⟩
theorem div_nat {a b c : Nat} (h : c = a / b) : Int.tdiv (a : Int) (b : Int) = (c : Int) := by rw [h]; rfl
set_option maxHeartbeats 1000000 in
theorem cvelocity (nm : ByteArray) (h p : Int) (A C : Option Addr) (na ca nc cc : Nat) (AX AY CX CY : Nat → Int) (x f l Q e' : Int) (q : Nat) (a b e : Int) (w : World) (hn : nm.size ≤ maxLen) (hA : TabIn w A na AX AY) (hC : TabIn w C nc CX CY)
    (hc : CapIs (SecOK nm.data.toList h p na AX AY nc CX CY) h x f l q Q e')
    (hcap : CapIs (SecOK nm.data.toList h p na AX AY nc CX CY) h x f l (capN (valK nc CX CY x) f.toNat l.toNat) Q e')
    (hr : VelIs Q e' q (areaLo na AX AY x) (areaHi na AX AY x) a b e) :
    Calls Try.prog 27 #[.agg #[.string nm, .int .i64 h, .int .i64 p, .slice A na ca, .slice C nc cc], .int .i64 x, .int .i64 f, .int .i64 l] w fun e1 w' => e1 = .returned (.tuple #[.agg #[.int .i64 a, .int .i64 b], .int .i64 e]) ∧ Below w.heap.size w w' := by
  have SC := Lib.hid fun w hA hC => ccap nm h p A C na ca nc cc AX AY CX CY x f l Q e' w hn hA hC hcap
  have HA := Lib.hid hA
  have HC := Lib.hid hC
  rcases hr with ⟨he, rfl, rfl, rfl⟩ | ⟨rfl, hu, rfl, rfl, rfl⟩ | ⟨rfl, hu, rfl, rfl, rfl, rfl⟩
  · have U1 : (e == 0) = false := by simp <;> omega
    clear hA hC hc hcap
    go_enter Try.func27, Try.ntmps27
    go_wp2_with (go_at_call 14; (with_reducible refine (SC.out _ ?_ ?_).mono ?_); (focus (exact HA.out.below (Nat.le_refl _) (by (repeat' (first | assumption | exact Below.refl _ _ | exact Below.size (by assumption) | (refine Below.setCell ?_ ?_ _) | (refine Below.alloc ?_ ?_ _) | (refine Below.drew ?_) | (refine below_drewN ?_ _) | (refine Below.trans ?_ (Below.mono ‹Below _ _ _› ?_)) | omega | (simp; done) | (simp; omega) | (simp at *; omega)))))); (focus (exact HC.out.below (Nat.le_refl _) (by (repeat' (first | assumption | exact Below.refl _ _ | exact Below.size (by assumption) | (refine Below.setCell ?_ ?_ _) | (refine Below.alloc ?_ ?_ _) | (refine Below.drew ?_) | (refine below_drewN ?_ _) | (refine Below.trans ?_ (Below.mono ‹Below _ _ _› ?_)) | omega | (simp; done) | (simp; omega) | (simp at *; omega)))))); rintro e w1 ⟨rfl, hb1⟩; obtain ⟨hc1, hf1⟩ := bcell hb1; have hz1 := hb1.size; (try simp at hz1); (try simp only [heap_drew, World.heap_drewN] at hz1); (try simp only [heap_drew, World.heap_drewN] at hc1); (try simp only [heap_drew, World.heap_drewN] at hf1); (try have hs1 := Nat.lt_of_succ_le hz1); (try have hs2 := Nat.lt_of_succ_lt hs1); (try have y0 : w.heap.size < w1.heap.size := by omega); (try have y1 : w.heap.size + 1 < w1.heap.size := by omega); (try have y2 : w.heap.size + 2 < w1.heap.size := by omega))
    refine bodyPost_ret (v := .tuple #[.agg #[.int .i64 0, .int .i64 0], .int .i64 e]) (by simp [results, Try.results27, go_sem, *]) rfl ⟨rfl, ?_⟩
    (repeat' (first | assumption | exact Below.refl _ _ | exact Below.size (by assumption) | (refine Below.setCell ?_ ?_ _) | (refine Below.alloc ?_ ?_ _) | (refine Below.drew ?_) | (refine below_drewN ?_ _) | (refine Below.trans ?_ (Below.mono ‹Below _ _ _› ?_)) | omega | (simp; done) | (simp; omega) | (simp at *; omega)))
  · obtain ⟨hok, hx⟩ : SecOK nm.data.toList h p na AX AY nc CX CY ∧ 0 ≤ x ∧ x ≤ h := by
      rcases hc with ⟨_, _, h⟩ | ⟨_, _, _, h⟩ | ⟨_, _, _, _, _, _, h⟩ | ⟨h1, h2, h3, _⟩
      · exact absurd h (by omega)
      · exact absurd h (by omega)
      · exact absurd h (by omega)
      · exact ⟨h1, h2, h3⟩
    obtain ⟨b, off, m, rfl, rfl, hT, hvt, h00, h01, h02, h03⟩ := sec_area hok hA
    obtain ⟨g1, g2, g3, g4, g5⟩ := area_spec (x := x) hvt h01 h03
    have SA := Lib.hid fun w hA hC => carea nm h p (some ⟨b, off, none⟩) C (m + 1) ca nc cc AX AY CX CY x 0 (areaHi (m + 1) AX AY x) 0 w hn hA hC (.inr (.inr ⟨hok, hx.1, hx.2, by rw [Nat.add_sub_cancel, g1, hu]; rfl, by rw [Nat.add_sub_cancel, g2], rfl⟩))
    obtain ⟨V, hV⟩ : ∃ V, V = areaHi (m + 1) AX AY x := ⟨_, rfl⟩
    rw [← hV] at SA
    clear hA hC hc hcap hok hx hT hvt h00 h01 h02 h03 g1 g2 g3 g4 g5 hV hu
    go_enter Try.func27, Try.ntmps27
    go_wp2_with (first | (go_at_call 14; (with_reducible refine (SC.out _ ?_ ?_).mono ?_); (focus (exact HA.out.below (Nat.le_refl _) (by (repeat' (first | assumption | exact Below.refl _ _ | exact Below.size (by assumption) | (refine Below.setCell ?_ ?_ _) | (refine Below.alloc ?_ ?_ _) | (refine Below.drew ?_) | (refine below_drewN ?_ _) | (refine Below.trans ?_ (Below.mono ‹Below _ _ _› ?_)) | omega | (simp; done) | (simp; omega) | (simp at *; omega)))))); (focus (exact HC.out.below (Nat.le_refl _) (by (repeat' (first | assumption | exact Below.refl _ _ | exact Below.size (by assumption) | (refine Below.setCell ?_ ?_ _) | (refine Below.alloc ?_ ?_ _) | (refine Below.drew ?_) | (refine below_drewN ?_ _) | (refine Below.trans ?_ (Below.mono ‹Below _ _ _› ?_)) | omega | (simp; done) | (simp; omega) | (simp at *; omega)))))); rintro e w1 ⟨rfl, hb1⟩; obtain ⟨hc1, hf1⟩ := bcell hb1; have hz1 := hb1.size; (try simp at hz1); (try simp only [heap_drew, World.heap_drewN] at hz1); (try simp only [heap_drew, World.heap_drewN] at hc1); (try simp only [heap_drew, World.heap_drewN] at hf1); (try have hs1 := Nat.lt_of_succ_le hz1); (try have hs2 := Nat.lt_of_succ_lt hs1); (try have y0 : w.heap.size < w1.heap.size := by omega); (try have y1 : w.heap.size + 1 < w1.heap.size := by omega); (try have y2 : w.heap.size + 2 < w1.heap.size := by omega)) | (go_at_call 25; (with_reducible refine (SA.out _ ?_ ?_).mono ?_); (focus (exact HA.out.below (Nat.le_refl _) (by (repeat' (first | assumption | exact Below.refl _ _ | exact Below.size (by assumption) | (refine Below.setCell ?_ ?_ _) | (refine Below.alloc ?_ ?_ _) | (refine Below.drew ?_) | (refine below_drewN ?_ _) | (refine Below.trans ?_ (Below.mono ‹Below _ _ _› ?_)) | omega | (simp; done) | (simp; omega) | (simp at *; omega)))))); (focus (exact HC.out.below (Nat.le_refl _) (by (repeat' (first | assumption | exact Below.refl _ _ | exact Below.size (by assumption) | (refine Below.setCell ?_ ?_ _) | (refine Below.alloc ?_ ?_ _) | (refine Below.drew ?_) | (refine below_drewN ?_ _) | (refine Below.trans ?_ (Below.mono ‹Below _ _ _› ?_)) | omega | (simp; done) | (simp; omega) | (simp at *; omega)))))); rintro e w1 ⟨rfl, hb1⟩; obtain ⟨hc1, hf1⟩ := bcell hb1; have hz1 := hb1.size; (try simp at hz1); (try simp only [heap_drew, World.heap_drewN] at hz1); (try simp only [heap_drew, World.heap_drewN] at hc1); (try simp only [heap_drew, World.heap_drewN] at hf1); (try have hs1 := Nat.lt_of_succ_le hz1); (try have hs2 := Nat.lt_of_succ_lt hs1); (try have y0 : w.heap.size < w1.heap.size := by omega); (try have y1 : w.heap.size + 1 < w1.heap.size := by omega); (try have y2 : w.heap.size + 2 < w1.heap.size := by omega)))
    refine bodyPost_ret (v := .tuple #[.agg #[.int .i64 0, .int .i64 0], .int .i64 16]) (by simp [results, Try.results27, go_sem, *]) rfl ⟨rfl, ?_⟩
    (repeat' (first | assumption | exact Below.refl _ _ | exact Below.size (by assumption) | (refine Below.setCell ?_ ?_ _) | (refine Below.alloc ?_ ?_ _) | (refine Below.drew ?_) | (refine below_drewN ?_ _) | (refine Below.trans ?_ (Below.mono ‹Below _ _ _› ?_)) | omega | (simp; done) | (simp; omega) | (simp at *; omega)))
  · obtain ⟨hok, hx, hq⟩ : SecOK nm.data.toList h p na AX AY nc CX CY ∧ (0 ≤ x ∧ x ≤ h) ∧ q ≤ 1099511627776 := by
      rcases hc with ⟨_, _, h⟩ | ⟨_, _, _, h⟩ | ⟨_, _, _, _, _, _, h⟩ | ⟨h1, h2, h3, _, h4, _⟩
      · exact absurd h (by omega)
      · exact absurd h (by omega)
      · exact absurd h (by omega)
      · exact ⟨h1, ⟨h2, h3⟩, h4⟩
    obtain ⟨b, off, m, rfl, rfl, hT, hvt, h00, h01, h02, h03⟩ := sec_area hok hA
    obtain ⟨g1, g2, g3, g4, g5⟩ := area_spec (x := x) hvt h01 h03
    have SA := Lib.hid fun w hA hC => carea nm h p (some ⟨b, off, none⟩) C (m + 1) ca nc cc AX AY CX CY x (areaLo (m + 1) AX AY x) (areaHi (m + 1) AX AY x) 0 w hn hA hC (.inr (.inr ⟨hok, hx.1, hx.2, by rw [Nat.add_sub_cancel, g1], by rw [Nat.add_sub_cancel, g2], rfl⟩))
    obtain ⟨V, hV⟩ : ∃ V, V = areaHi (m + 1) AX AY x := ⟨_, rfl⟩
    obtain ⟨U, hU⟩ : ∃ V, V = areaLo (m + 1) AX AY x := ⟨_, rfl⟩
    rw [← hV, ← hU] at SA
    rw [← hV, ← hU] at g3 g4
    rw [← hU] at g5 hu
    rw [← hV, ← hU]
    obtain ⟨Z, hZ⟩ : ∃ V, V = 1000 * q := ⟨_, rfl⟩
    rw [← hZ]
    obtain ⟨Y, hY⟩ : ∃ V, V = Z + U - 1 := ⟨_, rfl⟩
    rw [← hY]
    obtain ⟨r1, hr1⟩ : ∃ r, r = Z / V := ⟨_, rfl⟩
    obtain ⟨r2, hr2⟩ : ∃ r, r = Y / U := ⟨_, rfl⟩
    rw [← hr1, ← hr2]
    have l1 : r1 ≤ Z := by rw [hr1]; exact Nat.div_le_self _ _
    have l2 : r2 ≤ Y := by rw [hr2]; exact Nat.div_le_self _ _
    have z1 : IntKind.i64.wrap (1000 * (q : Int)) = (Z : Int) := by rw [IntKind.wrap_i64]; omega
    have z2 : IntKind.i64.wrap ((Z : Int) + (U : Int)) = ((Z + U : Nat) : Int) := by rw [IntKind.wrap_i64]; omega
    obtain ⟨X', hX'⟩ : ∃ V, V = Z + U := ⟨_, rfl⟩
    rw [← hX'] at z2
    have z3 : IntKind.i64.wrap ((X' : Int) - 1) = (Y : Int) := by rw [IntKind.wrap_i64]; omega
    have z4 : (Z : Int) / (V : Int) = (r1 : Int) := by rw [hr1]; rfl
    have z5 : (Y : Int) / (U : Int) = (r2 : Int) := by rw [hr2]; rfl
    have z4' : Int.tdiv (Z : Int) (V : Int) = (r1 : Int) := div_nat hr1
    have z5' : Int.tdiv (Y : Int) (U : Int) = (r2 : Int) := div_nat hr2
    have z6 : IntKind.i64.wrap (r1 : Int) = (r1 : Int) := by rw [IntKind.wrap_i64]; omega
    have z7 : IntKind.i64.wrap (r2 : Int) = (r2 : Int) := by rw [IntKind.wrap_i64]; omega
    have n1 : ¬ (V : Int) = 0 := by omega
    have n2 : ¬ (U : Int) = 0 := by omega
    have n3 : ¬ V = 0 := by omega
    have n4 : ¬ U = 0 := by omega
    have n5 : ((U : Int) == 0) = false := by simp <;> omega
    have n6 : ((V : Int) == 0) = false := by simp <;> omega
    clear hA hC hc hcap hok hx hT hvt h00 h01 h02 h03 g1 g2 g3 g4 g5 hV hU hu hZ hY hX' hr1 hr2 l1 l2 hq
    go_enter Try.func27, Try.ntmps27
    go_wp2_with (first | (go_at_call 14; (with_reducible refine (SC.out _ ?_ ?_).mono ?_); (focus (exact HA.out.below (Nat.le_refl _) (by (repeat' (first | assumption | exact Below.refl _ _ | exact Below.size (by assumption) | (refine Below.setCell ?_ ?_ _) | (refine Below.alloc ?_ ?_ _) | (refine Below.drew ?_) | (refine below_drewN ?_ _) | (refine Below.trans ?_ (Below.mono ‹Below _ _ _› ?_)) | omega | (simp; done) | (simp; omega) | (simp at *; omega)))))); (focus (exact HC.out.below (Nat.le_refl _) (by (repeat' (first | assumption | exact Below.refl _ _ | exact Below.size (by assumption) | (refine Below.setCell ?_ ?_ _) | (refine Below.alloc ?_ ?_ _) | (refine Below.drew ?_) | (refine below_drewN ?_ _) | (refine Below.trans ?_ (Below.mono ‹Below _ _ _› ?_)) | omega | (simp; done) | (simp; omega) | (simp at *; omega)))))); rintro e w1 ⟨rfl, hb1⟩; obtain ⟨hc1, hf1⟩ := bcell hb1; have hz1 := hb1.size; (try simp at hz1); (try simp only [heap_drew, World.heap_drewN] at hz1); (try simp only [heap_drew, World.heap_drewN] at hc1); (try simp only [heap_drew, World.heap_drewN] at hf1); (try have hs1 := Nat.lt_of_succ_le hz1); (try have hs2 := Nat.lt_of_succ_lt hs1); (try have y0 : w.heap.size < w1.heap.size := by omega); (try have y1 : w.heap.size + 1 < w1.heap.size := by omega); (try have y2 : w.heap.size + 2 < w1.heap.size := by omega)) | (go_at_call 25; (with_reducible refine (SA.out _ ?_ ?_).mono ?_); (focus (exact HA.out.below (Nat.le_refl _) (by (repeat' (first | assumption | exact Below.refl _ _ | exact Below.size (by assumption) | (refine Below.setCell ?_ ?_ _) | (refine Below.alloc ?_ ?_ _) | (refine Below.drew ?_) | (refine below_drewN ?_ _) | (refine Below.trans ?_ (Below.mono ‹Below _ _ _› ?_)) | omega | (simp; done) | (simp; omega) | (simp at *; omega)))))); (focus (exact HC.out.below (Nat.le_refl _) (by (repeat' (first | assumption | exact Below.refl _ _ | exact Below.size (by assumption) | (refine Below.setCell ?_ ?_ _) | (refine Below.alloc ?_ ?_ _) | (refine Below.drew ?_) | (refine below_drewN ?_ _) | (refine Below.trans ?_ (Below.mono ‹Below _ _ _› ?_)) | omega | (simp; done) | (simp; omega) | (simp at *; omega)))))); rintro e w1 ⟨rfl, hb1⟩; obtain ⟨hc1, hf1⟩ := bcell hb1; have hz1 := hb1.size; (try simp at hz1); (try simp only [heap_drew, World.heap_drewN] at hz1); (try simp only [heap_drew, World.heap_drewN] at hc1); (try simp only [heap_drew, World.heap_drewN] at hf1); (try have hs1 := Nat.lt_of_succ_le hz1); (try have hs2 := Nat.lt_of_succ_lt hs1); (try have y0 : w.heap.size < w1.heap.size := by omega); (try have y1 : w.heap.size + 1 < w1.heap.size := by omega); (try have y2 : w.heap.size + 2 < w1.heap.size := by omega)))
    go_region
    go_wp2_with fail
    refine bodyPost_ret (v := .tuple #[.agg #[.int .i64 r1, .int .i64 r2], .int .i64 0]) (by simp [results, Try.results27, go_sem, *]) rfl ⟨rfl, ?_⟩
    (repeat' (first | assumption | exact Below.refl _ _ | exact Below.size (by assumption) | (refine Below.setCell ?_ ?_ _) | (refine Below.alloc ?_ ?_ _) | (refine Below.drew ?_) | (refine below_drewN ?_ _) | (refine Below.trans ?_ (Below.mono ‹Below _ _ _› ?_)) | omega | (simp; done) | (simp; omega) | (simp at *; omega)))
end Go.Proofs.Ytchapkjloicfnaa

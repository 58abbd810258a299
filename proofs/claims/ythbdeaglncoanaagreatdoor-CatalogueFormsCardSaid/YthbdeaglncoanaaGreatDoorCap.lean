/- The capacity of a section, by the package. -/
import Derived.Test.YthbdeaglncoanaaGreatDoorFloor
import Derived.Test.YthbdeaglncoanaaGreatDoorSec
import Derived.Test.YthbdeaglncoanaaGreatDoorCat
namespace Go.Proofs.YthbdeaglncoanaaGreatDoor
open Go.RowKit
set_option linter.unusedVariables false
set_option linter.unusedSimpArgs false

/-- The capacity, whatever its size. -/
def capN (K f l : Nat) : Nat := Num.isq (K * K * f / l)
theorem cap_bounds {K f l : Nat} (hK : K ≤ 1099511627776) (hf : f ≤ 4194304) (hl : 1 ≤ l) :
    K * K * f < 85070591730234615865843651857942052864 ∧ K * K * f / l < 85070591730234615865843651857942052864 := by
  have h1 : K * K ≤ 1099511627776 * 1099511627776 := Nat.mul_le_mul hK hK
  have h2 : K * K * f ≤ 1099511627776 * 1099511627776 * 4194304 := Nat.mul_le_mul h1 hf
  have h3 : K * K * f / l ≤ K * K * f := Nat.div_le_self _ _
  omega

theorem ccarried (nm : ByteArray) (h p : Int) (A : Option Addr) (na ca b off m cc K f l : Nat) (X Y : Nat → Int) (x : Int) (hv : TabOK (m + 1) X Y) (hK : Val.val X Y m x = (K : Int)) (hK' : K ≤ 1099511627776) (hf : f ≤ 4194304) (hl : 1 ≤ l) (hl' : l ≤ 16777216)
    (w : World) (ht : TabAt w b off (m + 1) X Y) :
    Calls Tryz.prog 35 #[.agg #[.string nm, .int .i64 h, .int .i64 p, .slice A na ca, .slice (some ⟨b, off, none⟩) (m + 1 : Nat) cc], .int .i64 x, .int .i64 (f : Int), .int .i64 (l : Int)] w fun e w' => e = .returned (.tuple #[.int .i64 (capN K f l : Int), .int .i64 0]) ∧ Below w.heap.size w w' := by
  obtain ⟨c1, c2⟩ := cap_bounds hK' hf hl
  have S1 := Lib.hid fun w ht => tfloor b off m cc X Y x hv w ht
  rw [hK] at S1
  have S2 := Lib.hid fun w => cproduct K K (by omega) (by omega) w
  have S3 := Lib.hid fun w => ctimes (K * K) f (by omega) (by omega) w
  have S4 := Lib.hid fun w => cover (K * K * f) l (by omega) (by omega) (by omega) w
  have S5 : Hid (∀ w, Calls Tryz.prog 38 #[.agg #[.int .u64 (hi64 (K * K * f / l)), .int .u64 (lo64 (K * K * f / l))]] w fun e w' => e = .returned (.int .i64 (capN K f l : Int)) ∧ Below w.heap.size w w') := fun w => croot (K * K * f / l) c2 w
  have HT := Lib.hid ht
  have hb := ht.1
  clear hv hK hK' hf hl hl' ht c1 c2
  go_enter Tryz.func35, Tryz.ntmps35
  go_wp2_with (first | (go_at_call 55; (with_reducible refine (S1.out _ ?_).mono ?_); (focus (exact HT.out.below (by (repeat' (first | assumption | exact Below.refl _ _ | exact Below.size (by assumption) | (refine Below.setCell ?_ ?_ _) | (refine Below.alloc ?_ ?_ _) | (refine Below.drew ?_) | (refine below_drewN ?_ _) | (refine Below.trans ?_ (Below.mono ‹Below _ _ _› ?_)) | omega | (simp; done) | (simp; omega) | (simp at *; omega)))) hb)); rintro e w1 ⟨rfl, hb1⟩; obtain ⟨hc1, hf1⟩ := bcell hb1; have hz1 := hb1.size; (try simp at hz1); (try simp only [heap_drew, World.heap_drewN] at hz1); (try simp only [heap_drew, World.heap_drewN] at hc1); (try simp only [heap_drew, World.heap_drewN] at hf1); (try have hs1 := Nat.lt_of_succ_le hz1); (try have hs2 := Nat.lt_of_succ_lt hs1); (try have y0 : w.heap.size < w1.heap.size := by omega); (try have y1 : w.heap.size + 1 < w1.heap.size := by omega); (try have y2 : w.heap.size + 2 < w1.heap.size := by omega)) | (go_at_call 37; (with_reducible refine (S2.out _).mono ?_); rintro e w1 ⟨rfl, hb1⟩; obtain ⟨hc1, hf1⟩ := bcell hb1; have hz1 := hb1.size; (try simp at hz1); (try simp only [heap_drew, World.heap_drewN] at hz1); (try simp only [heap_drew, World.heap_drewN] at hc1); (try simp only [heap_drew, World.heap_drewN] at hf1); (try have hs1 := Nat.lt_of_succ_le hz1); (try have hs2 := Nat.lt_of_succ_lt hs1); (try have y0 : w.heap.size < w1.heap.size := by omega); (try have y1 : w.heap.size + 1 < w1.heap.size := by omega); (try have y2 : w.heap.size + 2 < w1.heap.size := by omega)) | (go_at_call 40; (with_reducible refine (S3.out _).mono ?_); rintro e w1 ⟨rfl, hb1⟩; obtain ⟨hc1, hf1⟩ := bcell hb1; have hz1 := hb1.size; (try simp at hz1); (try simp only [heap_drew, World.heap_drewN] at hz1); (try simp only [heap_drew, World.heap_drewN] at hc1); (try simp only [heap_drew, World.heap_drewN] at hf1); (try have hs1 := Nat.lt_of_succ_le hz1); (try have hs2 := Nat.lt_of_succ_lt hs1); (try have y0 : w.heap.size < w1.heap.size := by omega); (try have y1 : w.heap.size + 1 < w1.heap.size := by omega); (try have y2 : w.heap.size + 2 < w1.heap.size := by omega)) | (go_at_call 41; (with_reducible refine (S4.out _).mono ?_); rintro e w1 ⟨rfl, hb1⟩; obtain ⟨hc1, hf1⟩ := bcell hb1; have hz1 := hb1.size; (try simp at hz1); (try simp only [heap_drew, World.heap_drewN] at hz1); (try simp only [heap_drew, World.heap_drewN] at hc1); (try simp only [heap_drew, World.heap_drewN] at hf1); (try have hs1 := Nat.lt_of_succ_le hz1); (try have hs2 := Nat.lt_of_succ_lt hs1); (try have y0 : w.heap.size < w1.heap.size := by omega); (try have y1 : w.heap.size + 1 < w1.heap.size := by omega); (try have y2 : w.heap.size + 2 < w1.heap.size := by omega)) | (go_at_call 38; (with_reducible refine (S5.out _).mono ?_); rintro e w1 ⟨rfl, hb1⟩; obtain ⟨hc1, hf1⟩ := bcell hb1; have hz1 := hb1.size; (try simp at hz1); (try simp only [heap_drew, World.heap_drewN] at hz1); (try simp only [heap_drew, World.heap_drewN] at hc1); (try simp only [heap_drew, World.heap_drewN] at hf1); (try have hs1 := Nat.lt_of_succ_le hz1); (try have hs2 := Nat.lt_of_succ_lt hs1); (try have y0 : w.heap.size < w1.heap.size := by omega); (try have y1 : w.heap.size + 1 < w1.heap.size := by omega); (try have y2 : w.heap.size + 2 < w1.heap.size := by omega)))
  go_ret2
  refine ⟨rfl, ?_⟩
  (repeat' (first | assumption | exact Below.refl _ _ | exact Below.size (by assumption) | (refine Below.setCell ?_ ?_ _) | (refine Below.alloc ?_ ?_ _) | (refine Below.drew ?_) | (refine below_drewN ?_ _) | (refine Below.trans ?_ (Below.mono ‹Below _ _ _› ?_)) | omega | (simp; done) | (simp; omega) | (simp at *; omega)))

/-- What Capacity answers, in its four ways. -/
def CapIs (ok : Prop) (h x f l : Int) (v : Nat) (q e : Int) : Prop :=
  (¬ ok ∧ q = 0 ∧ e = 1) ∨ (ok ∧ (x < 0 ∨ h < x ∨ slopeB f l = false) ∧ q = 0 ∧ e = 2) ∨
  (ok ∧ 0 ≤ x ∧ x ≤ h ∧ slopeB f l = true ∧ 1099511627776 < v ∧ q = 0 ∧ e = 5) ∨ (ok ∧ 0 ≤ x ∧ x ≤ h ∧ slopeB f l = true ∧ v ≤ 1099511627776 ∧ q = v ∧ e = 0)
theorem slope_nat {f l : Int} (h : slopeB f l = true) : ∃ F L : Nat, f = F ∧ l = L ∧ F ≤ 4194304 ∧ 1 ≤ L ∧ L ≤ 16777216 := by
  have h' : (0 ≤ f ∧ f ≤ 4194304) ∧ (1 ≤ l ∧ l ≤ 16777216) := by simpa [slopeB, betw] using h
  exact ⟨f.toNat, l.toNat, by omega, by omega, by omega, by omega, by omega⟩
/-- The conveyance of a valid section. -/
theorem sec_conv {nm : List UInt8} {h p : Int} {na nc : Nat} {AX AY CX CY : Nat → Int} {w : World} {C : Option Addr} (ok : SecOK nm h p na AX AY nc CX CY) (hC : TabIn w C nc CX CY) :
    ∃ b off m, C = some ⟨b, off, none⟩ ∧ nc = m + 1 ∧ TabAt w b off (m + 1) CX CY ∧ TabOK (m + 1) CX CY ∧ CX 0 = 0 ∧ CY 0 = 0 ∧ CX m = h ∧ CY m ≤ 1099511627776 := by
  obtain ⟨_, _, _, _, _, _, hc, h0, h1, h2, h3⟩ := ok
  have hn := hc.1
  rcases hC.2 with e | ⟨b, off, hA, hT⟩
  · omega
  · obtain ⟨m, rfl⟩ : ∃ m, nc = m + 1 := ⟨nc - 1, by omega⟩
    exact ⟨b, off, m, hA, rfl, hT, hc, h0, h1, h2, h3⟩
def valK (nc : Nat) (X Y : Nat → Int) (x : Int) : Nat := (Val.val X Y (nc - 1) x).toNat
theorem valK_spec {m : Nat} {X Y : Nat → Int} {x : Int} (hv : TabOK (m + 1) X Y) (h0 : Y 0 = 0) (h1 : Y m ≤ 1099511627776) : Val.val X Y m x = (valK (m + 1) X Y x : Int) ∧ valK (m + 1) X Y x ≤ 1099511627776 := by
  have g1 := Val.val_ge (x := x) (asc_of hv)
  have g2 := Val.val_le (x := x) (asc_of hv)
  have e : valK (m + 1) X Y x = (Val.val X Y m x).toNat := rfl
  rw [e]
  omega

set_option maxHeartbeats 1000000 in
theorem ccap (nm : ByteArray) (h p : Int) (A C : Option Addr) (na ca nc cc : Nat) (AX AY CX CY : Nat → Int) (x f l q e : Int) (w : World) (hn : nm.size ≤ maxLen) (hA : TabIn w A na AX AY) (hC : TabIn w C nc CX CY)
    (hr : CapIs (SecOK nm.data.toList h p na AX AY nc CX CY) h x f l (capN (valK nc CX CY x) f.toNat l.toNat) q e) :
    Calls Tryz.prog 15 #[.agg #[.string nm, .int .i64 h, .int .i64 p, .slice A na ca, .slice C nc cc], .int .i64 x, .int .i64 f, .int .i64 l] w fun e' w' => e' = .returned (.tuple #[.int .i64 q, .int .i64 e]) ∧ Below w.heap.size w w' := by
  have SV := Lib.hid fun w hA hC => cvalid nm h p A C na ca nc cc AX AY CX CY w hn hA hC
  have HA := Lib.hid hA
  have HC := Lib.hid hC
  rcases hr with ⟨hok, rfl, rfl⟩ | ⟨hok, hb, rfl, rfl⟩ | ⟨hok, hx0, hx1, hs, hv, rfl, rfl⟩ | ⟨hok, hx0, hx1, hs, hv, rfl, rfl⟩
  · have tv := boolOf_false hok
    clear hA hC hok
    go_enter Tryz.func15, Tryz.ntmps15
    go_wp2_with (first | (go_at_call 27; (with_reducible refine (SV.out _ ?_ ?_).mono ?_); (focus (exact HA.out.below (Nat.le_refl _) (by (repeat' (first | assumption | exact Below.refl _ _ | exact Below.size (by assumption) | (refine Below.setCell ?_ ?_ _) | (refine Below.alloc ?_ ?_ _) | (refine Below.drew ?_) | (refine below_drewN ?_ _) | (refine Below.trans ?_ (Below.mono ‹Below _ _ _› ?_)) | omega | (simp; done) | (simp; omega) | (simp at *; omega)))))); (focus (exact HC.out.below (Nat.le_refl _) (by (repeat' (first | assumption | exact Below.refl _ _ | exact Below.size (by assumption) | (refine Below.setCell ?_ ?_ _) | (refine Below.alloc ?_ ?_ _) | (refine Below.drew ?_) | (refine below_drewN ?_ _) | (refine Below.trans ?_ (Below.mono ‹Below _ _ _› ?_)) | omega | (simp; done) | (simp; omega) | (simp at *; omega)))))); rintro e w1 ⟨rfl, hb1⟩; obtain ⟨hc1, hf1⟩ := bcell hb1; have hz1 := hb1.size; (try simp at hz1); (try simp only [heap_drew, World.heap_drewN] at hz1); (try simp only [heap_drew, World.heap_drewN] at hc1); (try simp only [heap_drew, World.heap_drewN] at hf1); (try have hs1 := Nat.lt_of_succ_le hz1); (try have hs2 := Nat.lt_of_succ_lt hs1); (try have y0 : w.heap.size < w1.heap.size := by omega); (try have y1 : w.heap.size + 1 < w1.heap.size := by omega); (try have y2 : w.heap.size + 2 < w1.heap.size := by omega)))
    go_ret2
    refine ⟨rfl, ?_⟩
    (repeat' (first | assumption | exact Below.refl _ _ | exact Below.size (by assumption) | (refine Below.setCell ?_ ?_ _) | (refine Below.alloc ?_ ?_ _) | (refine Below.drew ?_) | (refine below_drewN ?_ _) | (refine Below.trans ?_ (Below.mono ‹Below _ _ _› ?_)) | omega | (simp; done) | (simp; omega) | (simp at *; omega)))
  · have tv := boolOf_true hok
    clear hA hC hok
    by_cases hx0 : x < 0
    · clear hb
      go_enter Tryz.func15, Tryz.ntmps15
      go_wp2_with (first | (go_at_call 27; (with_reducible refine (SV.out _ ?_ ?_).mono ?_); (focus (exact HA.out.below (Nat.le_refl _) (by (repeat' (first | assumption | exact Below.refl _ _ | exact Below.size (by assumption) | (refine Below.setCell ?_ ?_ _) | (refine Below.alloc ?_ ?_ _) | (refine Below.drew ?_) | (refine below_drewN ?_ _) | (refine Below.trans ?_ (Below.mono ‹Below _ _ _› ?_)) | omega | (simp; done) | (simp; omega) | (simp at *; omega)))))); (focus (exact HC.out.below (Nat.le_refl _) (by (repeat' (first | assumption | exact Below.refl _ _ | exact Below.size (by assumption) | (refine Below.setCell ?_ ?_ _) | (refine Below.alloc ?_ ?_ _) | (refine Below.drew ?_) | (refine below_drewN ?_ _) | (refine Below.trans ?_ (Below.mono ‹Below _ _ _› ?_)) | omega | (simp; done) | (simp; omega) | (simp at *; omega)))))); rintro e w1 ⟨rfl, hb1⟩; obtain ⟨hc1, hf1⟩ := bcell hb1; have hz1 := hb1.size; (try simp at hz1); (try simp only [heap_drew, World.heap_drewN] at hz1); (try simp only [heap_drew, World.heap_drewN] at hc1); (try simp only [heap_drew, World.heap_drewN] at hf1); (try have hs1 := Nat.lt_of_succ_le hz1); (try have hs2 := Nat.lt_of_succ_lt hs1); (try have y0 : w.heap.size < w1.heap.size := by omega); (try have y1 : w.heap.size + 1 < w1.heap.size := by omega); (try have y2 : w.heap.size + 2 < w1.heap.size := by omega)))
      go_ret2
      refine ⟨rfl, ?_⟩
      (repeat' (first | assumption | exact Below.refl _ _ | exact Below.size (by assumption) | (refine Below.setCell ?_ ?_ _) | (refine Below.alloc ?_ ?_ _) | (refine Below.drew ?_) | (refine below_drewN ?_ _) | (refine Below.trans ?_ (Below.mono ‹Below _ _ _› ?_)) | omega | (simp; done) | (simp; omega) | (simp at *; omega)))
    · by_cases hx1 : h < x
      · clear hb
        go_enter Tryz.func15, Tryz.ntmps15
        go_wp2_with (first | (go_at_call 27; (with_reducible refine (SV.out _ ?_ ?_).mono ?_); (focus (exact HA.out.below (Nat.le_refl _) (by (repeat' (first | assumption | exact Below.refl _ _ | exact Below.size (by assumption) | (refine Below.setCell ?_ ?_ _) | (refine Below.alloc ?_ ?_ _) | (refine Below.drew ?_) | (refine below_drewN ?_ _) | (refine Below.trans ?_ (Below.mono ‹Below _ _ _› ?_)) | omega | (simp; done) | (simp; omega) | (simp at *; omega)))))); (focus (exact HC.out.below (Nat.le_refl _) (by (repeat' (first | assumption | exact Below.refl _ _ | exact Below.size (by assumption) | (refine Below.setCell ?_ ?_ _) | (refine Below.alloc ?_ ?_ _) | (refine Below.drew ?_) | (refine below_drewN ?_ _) | (refine Below.trans ?_ (Below.mono ‹Below _ _ _› ?_)) | omega | (simp; done) | (simp; omega) | (simp at *; omega)))))); rintro e w1 ⟨rfl, hb1⟩; obtain ⟨hc1, hf1⟩ := bcell hb1; have hz1 := hb1.size; (try simp at hz1); (try simp only [heap_drew, World.heap_drewN] at hz1); (try simp only [heap_drew, World.heap_drewN] at hc1); (try simp only [heap_drew, World.heap_drewN] at hf1); (try have hs1 := Nat.lt_of_succ_le hz1); (try have hs2 := Nat.lt_of_succ_lt hs1); (try have y0 : w.heap.size < w1.heap.size := by omega); (try have y1 : w.heap.size + 1 < w1.heap.size := by omega); (try have y2 : w.heap.size + 2 < w1.heap.size := by omega)))
        go_ret2
        refine ⟨rfl, ?_⟩
        (repeat' (first | assumption | exact Below.refl _ _ | exact Below.size (by assumption) | (refine Below.setCell ?_ ?_ _) | (refine Below.alloc ?_ ?_ _) | (refine Below.drew ?_) | (refine below_drewN ?_ _) | (refine Below.trans ?_ (Below.mono ‹Below _ _ _› ?_)) | omega | (simp; done) | (simp; omega) | (simp at *; omega)))
      · have hs : slopeB f l = false := by rcases hb with hb | hb | hb; exact absurd hb hx0; exact absurd hb hx1; exact hb
        clear hb
        go_enter Tryz.func15, Tryz.ntmps15
        go_wp2_with (first | (go_at_call 27; (with_reducible refine (SV.out _ ?_ ?_).mono ?_); (focus (exact HA.out.below (Nat.le_refl _) (by (repeat' (first | assumption | exact Below.refl _ _ | exact Below.size (by assumption) | (refine Below.setCell ?_ ?_ _) | (refine Below.alloc ?_ ?_ _) | (refine Below.drew ?_) | (refine below_drewN ?_ _) | (refine Below.trans ?_ (Below.mono ‹Below _ _ _› ?_)) | omega | (simp; done) | (simp; omega) | (simp at *; omega)))))); (focus (exact HC.out.below (Nat.le_refl _) (by (repeat' (first | assumption | exact Below.refl _ _ | exact Below.size (by assumption) | (refine Below.setCell ?_ ?_ _) | (refine Below.alloc ?_ ?_ _) | (refine Below.drew ?_) | (refine below_drewN ?_ _) | (refine Below.trans ?_ (Below.mono ‹Below _ _ _› ?_)) | omega | (simp; done) | (simp; omega) | (simp at *; omega)))))); rintro e w1 ⟨rfl, hb1⟩; obtain ⟨hc1, hf1⟩ := bcell hb1; have hz1 := hb1.size; (try simp at hz1); (try simp only [heap_drew, World.heap_drewN] at hz1); (try simp only [heap_drew, World.heap_drewN] at hc1); (try simp only [heap_drew, World.heap_drewN] at hf1); (try have hs1 := Nat.lt_of_succ_le hz1); (try have hs2 := Nat.lt_of_succ_lt hs1); (try have y0 : w.heap.size < w1.heap.size := by omega); (try have y1 : w.heap.size + 1 < w1.heap.size := by omega); (try have y2 : w.heap.size + 2 < w1.heap.size := by omega)) | (go_at_call 34; (with_reducible refine (cslope _ _ _).mono ?_); rintro e w' ⟨rfl, rfl⟩))
        go_ret2
        refine ⟨rfl, ?_⟩
        (repeat' (first | assumption | exact Below.refl _ _ | exact Below.size (by assumption) | (refine Below.setCell ?_ ?_ _) | (refine Below.alloc ?_ ?_ _) | (refine Below.drew ?_) | (refine below_drewN ?_ _) | (refine Below.trans ?_ (Below.mono ‹Below _ _ _› ?_)) | omega | (simp; done) | (simp; omega) | (simp at *; omega)))
  all_goals
    obtain ⟨b, off, m, rfl, rfl, hT, hvt, h00, h01, h02, h03⟩ := sec_conv hok hC
    obtain ⟨F, L, rfl, rfl, hF, hL, hL'⟩ := slope_nat hs
    obtain ⟨k1, k2⟩ := valK_spec (x := x) hvt h01 h03
    have S2 := Lib.hid fun w ht => ccarried nm h p A na ca b off m cc (valK (m + 1) CX CY x) F L CX CY x hvt k1 k2 hF hL hL' w ht
    have tv := boolOf_true hok
    have HT := Lib.hid hT
    have hb := hT.1
    simp only [Int.toNat_natCast] at hv
    obtain ⟨v, hv'⟩ : ∃ v, v = capN (valK (m + 1) CX CY x) F L := ⟨_, rfl⟩
    try simp only [Int.toNat_natCast]
    rw [← hv'] at S2 hv
    try rw [← hv']
    have U1 : decide (x < 0) = false := by simp <;> omega
    have U2 : decide (h < x) = false := by simp <;> omega
    have hw : ((v : Int) ≤ 1099511627776 ∨ 1099511627776 < (v : Int)) := by omega
    clear hA hC hok hT hvt h00 h01 h02 h03 hF hL hL' k1 k2 hv'
  · have T : decide ((1099511627776 : Int) < (v : Int)) = true := by simp <;> omega
    clear hv hw
    go_enter Tryz.func15, Tryz.ntmps15
    go_wp2_with (first | (go_at_call 27; (with_reducible refine (SV.out _ ?_ ?_).mono ?_); (focus (exact HA.out.below (Nat.le_refl _) (by (repeat' (first | assumption | exact Below.refl _ _ | exact Below.size (by assumption) | (refine Below.setCell ?_ ?_ _) | (refine Below.alloc ?_ ?_ _) | (refine Below.drew ?_) | (refine below_drewN ?_ _) | (refine Below.trans ?_ (Below.mono ‹Below _ _ _› ?_)) | omega | (simp; done) | (simp; omega) | (simp at *; omega)))))); (focus (exact HC.out.below (Nat.le_refl _) (by (repeat' (first | assumption | exact Below.refl _ _ | exact Below.size (by assumption) | (refine Below.setCell ?_ ?_ _) | (refine Below.alloc ?_ ?_ _) | (refine Below.drew ?_) | (refine below_drewN ?_ _) | (refine Below.trans ?_ (Below.mono ‹Below _ _ _› ?_)) | omega | (simp; done) | (simp; omega) | (simp at *; omega)))))); rintro e w1 ⟨rfl, hb1⟩; obtain ⟨hc1, hf1⟩ := bcell hb1; have hz1 := hb1.size; (try simp at hz1); (try simp only [heap_drew, World.heap_drewN] at hz1); (try simp only [heap_drew, World.heap_drewN] at hc1); (try simp only [heap_drew, World.heap_drewN] at hf1); (try have hs1 := Nat.lt_of_succ_le hz1); (try have hs2 := Nat.lt_of_succ_lt hs1); (try have y0 : w.heap.size < w1.heap.size := by omega); (try have y1 : w.heap.size + 1 < w1.heap.size := by omega); (try have y2 : w.heap.size + 2 < w1.heap.size := by omega)) | (go_at_call 34; (with_reducible refine (cslope _ _ _).mono ?_); rintro e w' ⟨rfl, rfl⟩) | (go_at_call 35; (with_reducible refine (S2.out _ ?_).mono ?_); (focus (exact HT.out.below (by (repeat' (first | assumption | exact Below.refl _ _ | exact Below.size (by assumption) | (refine Below.setCell ?_ ?_ _) | (refine Below.alloc ?_ ?_ _) | (refine Below.drew ?_) | (refine below_drewN ?_ _) | (refine Below.trans ?_ (Below.mono ‹Below _ _ _› ?_)) | omega | (simp; done) | (simp; omega) | (simp at *; omega)))) hb)); rintro e w1 ⟨rfl, hb1⟩; obtain ⟨hc1, hf1⟩ := bcell hb1; have hz1 := hb1.size; (try simp at hz1); (try simp only [heap_drew, World.heap_drewN] at hz1); (try simp only [heap_drew, World.heap_drewN] at hc1); (try simp only [heap_drew, World.heap_drewN] at hf1); (try have hs1 := Nat.lt_of_succ_le hz1); (try have hs2 := Nat.lt_of_succ_lt hs1); (try have y0 : w.heap.size < w1.heap.size := by omega); (try have y1 : w.heap.size + 1 < w1.heap.size := by omega); (try have y2 : w.heap.size + 2 < w1.heap.size := by omega)))
    go_ret2
    refine ⟨rfl, ?_⟩
    (repeat' (first | assumption | exact Below.refl _ _ | exact Below.size (by assumption) | (refine Below.setCell ?_ ?_ _) | (refine Below.alloc ?_ ?_ _) | (refine Below.drew ?_) | (refine below_drewN ?_ _) | (refine Below.trans ?_ (Below.mono ‹Below _ _ _› ?_)) | omega | (simp; done) | (simp; omega) | (simp at *; omega)))
  · have T : decide ((1099511627776 : Int) < (v : Int)) = false := by simp <;> omega
    clear hv hw
    go_enter Tryz.func15, Tryz.ntmps15
    go_wp2_with (first | (go_at_call 27; (with_reducible refine (SV.out _ ?_ ?_).mono ?_); (focus (exact HA.out.below (Nat.le_refl _) (by (repeat' (first | assumption | exact Below.refl _ _ | exact Below.size (by assumption) | (refine Below.setCell ?_ ?_ _) | (refine Below.alloc ?_ ?_ _) | (refine Below.drew ?_) | (refine below_drewN ?_ _) | (refine Below.trans ?_ (Below.mono ‹Below _ _ _› ?_)) | omega | (simp; done) | (simp; omega) | (simp at *; omega)))))); (focus (exact HC.out.below (Nat.le_refl _) (by (repeat' (first | assumption | exact Below.refl _ _ | exact Below.size (by assumption) | (refine Below.setCell ?_ ?_ _) | (refine Below.alloc ?_ ?_ _) | (refine Below.drew ?_) | (refine below_drewN ?_ _) | (refine Below.trans ?_ (Below.mono ‹Below _ _ _› ?_)) | omega | (simp; done) | (simp; omega) | (simp at *; omega)))))); rintro e w1 ⟨rfl, hb1⟩; obtain ⟨hc1, hf1⟩ := bcell hb1; have hz1 := hb1.size; (try simp at hz1); (try simp only [heap_drew, World.heap_drewN] at hz1); (try simp only [heap_drew, World.heap_drewN] at hc1); (try simp only [heap_drew, World.heap_drewN] at hf1); (try have hs1 := Nat.lt_of_succ_le hz1); (try have hs2 := Nat.lt_of_succ_lt hs1); (try have y0 : w.heap.size < w1.heap.size := by omega); (try have y1 : w.heap.size + 1 < w1.heap.size := by omega); (try have y2 : w.heap.size + 2 < w1.heap.size := by omega)) | (go_at_call 34; (with_reducible refine (cslope _ _ _).mono ?_); rintro e w' ⟨rfl, rfl⟩) | (go_at_call 35; (with_reducible refine (S2.out _ ?_).mono ?_); (focus (exact HT.out.below (by (repeat' (first | assumption | exact Below.refl _ _ | exact Below.size (by assumption) | (refine Below.setCell ?_ ?_ _) | (refine Below.alloc ?_ ?_ _) | (refine Below.drew ?_) | (refine below_drewN ?_ _) | (refine Below.trans ?_ (Below.mono ‹Below _ _ _› ?_)) | omega | (simp; done) | (simp; omega) | (simp at *; omega)))) hb)); rintro e w1 ⟨rfl, hb1⟩; obtain ⟨hc1, hf1⟩ := bcell hb1; have hz1 := hb1.size; (try simp at hz1); (try simp only [heap_drew, World.heap_drewN] at hz1); (try simp only [heap_drew, World.heap_drewN] at hc1); (try simp only [heap_drew, World.heap_drewN] at hf1); (try have hs1 := Nat.lt_of_succ_le hz1); (try have hs2 := Nat.lt_of_succ_lt hs1); (try have y0 : w.heap.size < w1.heap.size := by omega); (try have y1 : w.heap.size + 1 < w1.heap.size := by omega); (try have y2 : w.heap.size + 2 < w1.heap.size := by omega)))
    go_ret2
    refine ⟨rfl, ?_⟩
    (repeat' (first | assumption | exact Below.refl _ _ | exact Below.size (by assumption) | (refine Below.setCell ?_ ?_ _) | (refine Below.alloc ?_ ?_ _) | (refine Below.drew ?_) | (refine below_drewN ?_ _) | (refine Below.trans ?_ (Below.mono ‹Below _ _ _› ?_)) | omega | (simp; done) | (simp; omega) | (simp at *; omega)))

end Go.Proofs.YthbdeaglncoanaaGreatDoor

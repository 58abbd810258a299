/- The capacity and the least depth that carries a flow, by the reference. -/
import Derived.Test.YtchapkjloicfnaaRefD
import Derived.Test.YtchapkjloicfnaaDepth
namespace Go.Proofs.Ytchapkjloicfnaa
open Go.RowKit
set_option linter.unusedVariables false
set_option linter.unusedSimpArgs false

set_option maxHeartbeats 1000000 in
theorem rcap (nm : ByteArray) (h p : Int) (A C : Option Addr) (na ca nc cc : Nat) (AX AY CX CY : Nat → Int) (x f l q e : Int) (w : World) (hn : nm.size ≤ maxLen) (hA : TabIn w A na AX AY) (hC : TabIn w C nc CX CY)
    (hr : CapIs (SecOK nm.data.toList h p na AX AY nc CX CY) h x f l (capN (valK nc CX CY x) f.toNat l.toNat) q e) :
    Calls Try.prog 21 #[.agg #[.string nm, .int .i64 h, .int .i64 p, .slice A na ca, .slice C nc cc], .int .i64 x, .int .i64 f, .int .i64 l] w fun e' w' => e' = .returned (.tuple #[.int .i64 q, .int .i64 e]) ∧ Below w.heap.size w w' := by
  have SV := Lib.hid fun w hA hC => rright nm h p A C na ca nc cc AX AY CX CY w hn hA hC
  have HA := Lib.hid hA
  have HC := Lib.hid hC
  rcases hr with ⟨hok, rfl, rfl⟩ | ⟨hok, hb, rfl, rfl⟩ | ⟨hok, hx0, hx1, hs, hv, rfl, rfl⟩ | ⟨hok, hx0, hx1, hs, hv, rfl, rfl⟩
  · have tv := boolOf_false hok
    clear hA hC hok
    go_enter Try.func21, Try.ntmps21
    go_wp2_with (first | (go_at_call 12; (with_reducible refine (SV.out _ ?_ ?_).mono ?_); (focus (exact HA.out.below (Nat.le_refl _) (by (repeat' (first | assumption | exact Below.refl _ _ | exact Below.size (by assumption) | (refine Below.setCell ?_ ?_ _) | (refine Below.alloc ?_ ?_ _) | (refine Below.drew ?_) | (refine below_drewN ?_ _) | (refine Below.trans ?_ (Below.mono ‹Below _ _ _› ?_)) | omega | (simp; done) | (simp; omega) | (simp at *; omega)))))); (focus (exact HC.out.below (Nat.le_refl _) (by (repeat' (first | assumption | exact Below.refl _ _ | exact Below.size (by assumption) | (refine Below.setCell ?_ ?_ _) | (refine Below.alloc ?_ ?_ _) | (refine Below.drew ?_) | (refine below_drewN ?_ _) | (refine Below.trans ?_ (Below.mono ‹Below _ _ _› ?_)) | omega | (simp; done) | (simp; omega) | (simp at *; omega)))))); rintro e w1 ⟨rfl, hb1⟩; obtain ⟨hc1, hf1⟩ := bcell hb1; have hz1 := hb1.size; (try simp at hz1); (try simp only [heap_drew, World.heap_drewN] at hz1); (try simp only [heap_drew, World.heap_drewN] at hc1); (try simp only [heap_drew, World.heap_drewN] at hf1); (try have hs1 := Nat.lt_of_succ_le hz1); (try have hs2 := Nat.lt_of_succ_lt hs1); (try have y0 : w.heap.size < w1.heap.size := by omega); (try have y1 : w.heap.size + 1 < w1.heap.size := by omega); (try have y2 : w.heap.size + 2 < w1.heap.size := by omega)))
    go_ret2
    refine ⟨rfl, ?_⟩
    (repeat' (first | assumption | exact Below.refl _ _ | exact Below.size (by assumption) | (refine Below.setCell ?_ ?_ _) | (refine Below.alloc ?_ ?_ _) | (refine Below.drew ?_) | (refine below_drewN ?_ _) | (refine Below.trans ?_ (Below.mono ‹Below _ _ _› ?_)) | omega | (simp; done) | (simp; omega) | (simp at *; omega)))
  · have tv := boolOf_true hok
    clear hA hC hok
    by_cases hx0 : x < 0
    · clear hb
      go_enter Try.func21, Try.ntmps21
      go_wp2_with (first | (go_at_call 12; (with_reducible refine (SV.out _ ?_ ?_).mono ?_); (focus (exact HA.out.below (Nat.le_refl _) (by (repeat' (first | assumption | exact Below.refl _ _ | exact Below.size (by assumption) | (refine Below.setCell ?_ ?_ _) | (refine Below.alloc ?_ ?_ _) | (refine Below.drew ?_) | (refine below_drewN ?_ _) | (refine Below.trans ?_ (Below.mono ‹Below _ _ _› ?_)) | omega | (simp; done) | (simp; omega) | (simp at *; omega)))))); (focus (exact HC.out.below (Nat.le_refl _) (by (repeat' (first | assumption | exact Below.refl _ _ | exact Below.size (by assumption) | (refine Below.setCell ?_ ?_ _) | (refine Below.alloc ?_ ?_ _) | (refine Below.drew ?_) | (refine below_drewN ?_ _) | (refine Below.trans ?_ (Below.mono ‹Below _ _ _› ?_)) | omega | (simp; done) | (simp; omega) | (simp at *; omega)))))); rintro e w1 ⟨rfl, hb1⟩; obtain ⟨hc1, hf1⟩ := bcell hb1; have hz1 := hb1.size; (try simp at hz1); (try simp only [heap_drew, World.heap_drewN] at hz1); (try simp only [heap_drew, World.heap_drewN] at hc1); (try simp only [heap_drew, World.heap_drewN] at hf1); (try have hs1 := Nat.lt_of_succ_le hz1); (try have hs2 := Nat.lt_of_succ_lt hs1); (try have y0 : w.heap.size < w1.heap.size := by omega); (try have y1 : w.heap.size + 1 < w1.heap.size := by omega); (try have y2 : w.heap.size + 2 < w1.heap.size := by omega)))
      go_ret2
      refine ⟨rfl, ?_⟩
      (repeat' (first | assumption | exact Below.refl _ _ | exact Below.size (by assumption) | (refine Below.setCell ?_ ?_ _) | (refine Below.alloc ?_ ?_ _) | (refine Below.drew ?_) | (refine below_drewN ?_ _) | (refine Below.trans ?_ (Below.mono ‹Below _ _ _› ?_)) | omega | (simp; done) | (simp; omega) | (simp at *; omega)))
    · by_cases hx1 : h < x
      · clear hb
        go_enter Try.func21, Try.ntmps21
        go_wp2_with (first | (go_at_call 12; (with_reducible refine (SV.out _ ?_ ?_).mono ?_); (focus (exact HA.out.below (Nat.le_refl _) (by (repeat' (first | assumption | exact Below.refl _ _ | exact Below.size (by assumption) | (refine Below.setCell ?_ ?_ _) | (refine Below.alloc ?_ ?_ _) | (refine Below.drew ?_) | (refine below_drewN ?_ _) | (refine Below.trans ?_ (Below.mono ‹Below _ _ _› ?_)) | omega | (simp; done) | (simp; omega) | (simp at *; omega)))))); (focus (exact HC.out.below (Nat.le_refl _) (by (repeat' (first | assumption | exact Below.refl _ _ | exact Below.size (by assumption) | (refine Below.setCell ?_ ?_ _) | (refine Below.alloc ?_ ?_ _) | (refine Below.drew ?_) | (refine below_drewN ?_ _) | (refine Below.trans ?_ (Below.mono ‹Below _ _ _› ?_)) | omega | (simp; done) | (simp; omega) | (simp at *; omega)))))); rintro e w1 ⟨rfl, hb1⟩; obtain ⟨hc1, hf1⟩ := bcell hb1; have hz1 := hb1.size; (try simp at hz1); (try simp only [heap_drew, World.heap_drewN] at hz1); (try simp only [heap_drew, World.heap_drewN] at hc1); (try simp only [heap_drew, World.heap_drewN] at hf1); (try have hs1 := Nat.lt_of_succ_le hz1); (try have hs2 := Nat.lt_of_succ_lt hs1); (try have y0 : w.heap.size < w1.heap.size := by omega); (try have y1 : w.heap.size + 1 < w1.heap.size := by omega); (try have y2 : w.heap.size + 2 < w1.heap.size := by omega)))
        go_ret2
        refine ⟨rfl, ?_⟩
        (repeat' (first | assumption | exact Below.refl _ _ | exact Below.size (by assumption) | (refine Below.setCell ?_ ?_ _) | (refine Below.alloc ?_ ?_ _) | (refine Below.drew ?_) | (refine below_drewN ?_ _) | (refine Below.trans ?_ (Below.mono ‹Below _ _ _› ?_)) | omega | (simp; done) | (simp; omega) | (simp at *; omega)))
      · have hs : slopeB f l = false := by rcases hb with hb | hb | hb; exact absurd hb hx0; exact absurd hb hx1; exact hb
        clear hb
        go_enter Try.func21, Try.ntmps21
        go_wp2_with (first | (go_at_call 12; (with_reducible refine (SV.out _ ?_ ?_).mono ?_); (focus (exact HA.out.below (Nat.le_refl _) (by (repeat' (first | assumption | exact Below.refl _ _ | exact Below.size (by assumption) | (refine Below.setCell ?_ ?_ _) | (refine Below.alloc ?_ ?_ _) | (refine Below.drew ?_) | (refine below_drewN ?_ _) | (refine Below.trans ?_ (Below.mono ‹Below _ _ _› ?_)) | omega | (simp; done) | (simp; omega) | (simp at *; omega)))))); (focus (exact HC.out.below (Nat.le_refl _) (by (repeat' (first | assumption | exact Below.refl _ _ | exact Below.size (by assumption) | (refine Below.setCell ?_ ?_ _) | (refine Below.alloc ?_ ?_ _) | (refine Below.drew ?_) | (refine below_drewN ?_ _) | (refine Below.trans ?_ (Below.mono ‹Below _ _ _› ?_)) | omega | (simp; done) | (simp; omega) | (simp at *; omega)))))); rintro e w1 ⟨rfl, hb1⟩; obtain ⟨hc1, hf1⟩ := bcell hb1; have hz1 := hb1.size; (try simp at hz1); (try simp only [heap_drew, World.heap_drewN] at hz1); (try simp only [heap_drew, World.heap_drewN] at hc1); (try simp only [heap_drew, World.heap_drewN] at hf1); (try have hs1 := Nat.lt_of_succ_le hz1); (try have hs2 := Nat.lt_of_succ_lt hs1); (try have y0 : w.heap.size < w1.heap.size := by omega); (try have y1 : w.heap.size + 1 < w1.heap.size := by omega); (try have y2 : w.heap.size + 2 < w1.heap.size := by omega)) | (go_at_call 13; (with_reducible refine (rslope _ _ _).mono ?_); rintro e w' ⟨rfl, rfl⟩))
        go_ret2
        refine ⟨rfl, ?_⟩
        (repeat' (first | assumption | exact Below.refl _ _ | exact Below.size (by assumption) | (refine Below.setCell ?_ ?_ _) | (refine Below.alloc ?_ ?_ _) | (refine Below.drew ?_) | (refine below_drewN ?_ _) | (refine Below.trans ?_ (Below.mono ‹Below _ _ _› ?_)) | omega | (simp; done) | (simp; omega) | (simp at *; omega)))
  all_goals
    obtain ⟨b, off, m, rfl, rfl, hT, hvt, h00, h01, h02, h03⟩ := sec_conv hok hC
    obtain ⟨F, L, rfl, rfl, hF, hL, hL'⟩ := slope_nat hs
    obtain ⟨k1, k2⟩ := valK_spec (x := x) hvt h01 h03
    have S2 := Lib.hid fun w ht => rcarried nm h p A na ca b off m cc (valK (m + 1) CX CY x) F L CX CY x hvt (by have := hok.2.2.1; omega) k1 k2 hF hL hL' w ht
    have tv := boolOf_true hok
    have HT := Lib.hid hT
    have hb := hT.1
    simp only [Int.toNat_natCast] at hv
    obtain ⟨v, hv'⟩ : ∃ v, v = capN (valK (m + 1) CX CY x) F L := ⟨_, rfl⟩
    try simp only [Int.toNat_natCast]
    rw [← hv'] at S2 hv
    try rw [← hv']
    have U1 : decide (x < 0) = false := by simp <;> omega
    have U2 : decide (h < x) = false := by simp <;> omega
    have hw : ((v : Int) ≤ 1099511627776 ∨ 1099511627776 < (v : Int)) := by omega
    clear hA hC hok hT hvt h00 h01 h02 h03 hF hL hL' k1 k2 hv'
  · have T : decide ((1099511627776 : Int) < (v : Int)) = true := by simp <;> omega
    clear hv hw
    go_enter Try.func21, Try.ntmps21
    go_wp2_with (first | (go_at_call 12; (with_reducible refine (SV.out _ ?_ ?_).mono ?_); (focus (exact HA.out.below (Nat.le_refl _) (by (repeat' (first | assumption | exact Below.refl _ _ | exact Below.size (by assumption) | (refine Below.setCell ?_ ?_ _) | (refine Below.alloc ?_ ?_ _) | (refine Below.drew ?_) | (refine below_drewN ?_ _) | (refine Below.trans ?_ (Below.mono ‹Below _ _ _› ?_)) | omega | (simp; done) | (simp; omega) | (simp at *; omega)))))); (focus (exact HC.out.below (Nat.le_refl _) (by (repeat' (first | assumption | exact Below.refl _ _ | exact Below.size (by assumption) | (refine Below.setCell ?_ ?_ _) | (refine Below.alloc ?_ ?_ _) | (refine Below.drew ?_) | (refine below_drewN ?_ _) | (refine Below.trans ?_ (Below.mono ‹Below _ _ _› ?_)) | omega | (simp; done) | (simp; omega) | (simp at *; omega)))))); rintro e w1 ⟨rfl, hb1⟩; obtain ⟨hc1, hf1⟩ := bcell hb1; have hz1 := hb1.size; (try simp at hz1); (try simp only [heap_drew, World.heap_drewN] at hz1); (try simp only [heap_drew, World.heap_drewN] at hc1); (try simp only [heap_drew, World.heap_drewN] at hf1); (try have hs1 := Nat.lt_of_succ_le hz1); (try have hs2 := Nat.lt_of_succ_lt hs1); (try have y0 : w.heap.size < w1.heap.size := by omega); (try have y1 : w.heap.size + 1 < w1.heap.size := by omega); (try have y2 : w.heap.size + 2 < w1.heap.size := by omega)) | (go_at_call 13; (with_reducible refine (rslope _ _ _).mono ?_); rintro e w' ⟨rfl, rfl⟩) | (go_at_call 45; (with_reducible refine (S2.out _ ?_).mono ?_); (focus (exact HT.out.below (by (repeat' (first | assumption | exact Below.refl _ _ | exact Below.size (by assumption) | (refine Below.setCell ?_ ?_ _) | (refine Below.alloc ?_ ?_ _) | (refine Below.drew ?_) | (refine below_drewN ?_ _) | (refine Below.trans ?_ (Below.mono ‹Below _ _ _› ?_)) | omega | (simp; done) | (simp; omega) | (simp at *; omega)))) hb)); rintro e w1 ⟨rfl, hb1⟩; obtain ⟨hc1, hf1⟩ := bcell hb1; have hz1 := hb1.size; (try simp at hz1); (try simp only [heap_drew, World.heap_drewN] at hz1); (try simp only [heap_drew, World.heap_drewN] at hc1); (try simp only [heap_drew, World.heap_drewN] at hf1); (try have hs1 := Nat.lt_of_succ_le hz1); (try have hs2 := Nat.lt_of_succ_lt hs1); (try have y0 : w.heap.size < w1.heap.size := by omega); (try have y1 : w.heap.size + 1 < w1.heap.size := by omega); (try have y2 : w.heap.size + 2 < w1.heap.size := by omega)))
    go_ret2
    refine ⟨rfl, ?_⟩
    (repeat' (first | assumption | exact Below.refl _ _ | exact Below.size (by assumption) | (refine Below.setCell ?_ ?_ _) | (refine Below.alloc ?_ ?_ _) | (refine Below.drew ?_) | (refine below_drewN ?_ _) | (refine Below.trans ?_ (Below.mono ‹Below _ _ _› ?_)) | omega | (simp; done) | (simp; omega) | (simp at *; omega)))
  · have T : decide ((1099511627776 : Int) < (v : Int)) = false := by simp <;> omega
    clear hv hw
    go_enter Try.func21, Try.ntmps21
    go_wp2_with (first | (go_at_call 12; (with_reducible refine (SV.out _ ?_ ?_).mono ?_); (focus (exact HA.out.below (Nat.le_refl _) (by (repeat' (first | assumption | exact Below.refl _ _ | exact Below.size (by assumption) | (refine Below.setCell ?_ ?_ _) | (refine Below.alloc ?_ ?_ _) | (refine Below.drew ?_) | (refine below_drewN ?_ _) | (refine Below.trans ?_ (Below.mono ‹Below _ _ _› ?_)) | omega | (simp; done) | (simp; omega) | (simp at *; omega)))))); (focus (exact HC.out.below (Nat.le_refl _) (by (repeat' (first | assumption | exact Below.refl _ _ | exact Below.size (by assumption) | (refine Below.setCell ?_ ?_ _) | (refine Below.alloc ?_ ?_ _) | (refine Below.drew ?_) | (refine below_drewN ?_ _) | (refine Below.trans ?_ (Below.mono ‹Below _ _ _› ?_)) | omega | (simp; done) | (simp; omega) | (simp at *; omega)))))); rintro e w1 ⟨rfl, hb1⟩; obtain ⟨hc1, hf1⟩ := bcell hb1; have hz1 := hb1.size; (try simp at hz1); (try simp only [heap_drew, World.heap_drewN] at hz1); (try simp only [heap_drew, World.heap_drewN] at hc1); (try simp only [heap_drew, World.heap_drewN] at hf1); (try have hs1 := Nat.lt_of_succ_le hz1); (try have hs2 := Nat.lt_of_succ_lt hs1); (try have y0 : w.heap.size < w1.heap.size := by omega); (try have y1 : w.heap.size + 1 < w1.heap.size := by omega); (try have y2 : w.heap.size + 2 < w1.heap.size := by omega)) | (go_at_call 13; (with_reducible refine (rslope _ _ _).mono ?_); rintro e w' ⟨rfl, rfl⟩) | (go_at_call 45; (with_reducible refine (S2.out _ ?_).mono ?_); (focus (exact HT.out.below (by (repeat' (first | assumption | exact Below.refl _ _ | exact Below.size (by assumption) | (refine Below.setCell ?_ ?_ _) | (refine Below.alloc ?_ ?_ _) | (refine Below.drew ?_) | (refine below_drewN ?_ _) | (refine Below.trans ?_ (Below.mono ‹Below _ _ _› ?_)) | omega | (simp; done) | (simp; omega) | (simp at *; omega)))) hb)); rintro e w1 ⟨rfl, hb1⟩; obtain ⟨hc1, hf1⟩ := bcell hb1; have hz1 := hb1.size; (try simp at hz1); (try simp only [heap_drew, World.heap_drewN] at hz1); (try simp only [heap_drew, World.heap_drewN] at hc1); (try simp only [heap_drew, World.heap_drewN] at hf1); (try have hs1 := Nat.lt_of_succ_le hz1); (try have hs2 := Nat.lt_of_succ_lt hs1); (try have y0 : w.heap.size < w1.heap.size := by omega); (try have y1 : w.heap.size + 1 < w1.heap.size := by omega); (try have y2 : w.heap.size + 2 < w1.heap.size := by omega)))
    go_ret2
    refine ⟨rfl, ?_⟩
    (repeat' (first | assumption | exact Below.refl _ _ | exact Below.size (by assumption) | (refine Below.setCell ?_ ?_ _) | (refine Below.alloc ?_ ?_ _) | (refine Below.drew ?_) | (refine below_drewN ?_ _) | (refine Below.trans ?_ (Below.mono ‹Below _ _ _› ?_)) | omega | (simp; done) | (simp; omega) | (simp at *; omega)))

set_option maxRecDepth 100000 in
set_option maxHeartbeats 2000000 in
theorem rdepth_main (nm : ByteArray) (p : Int) (A C : Option Addr) (H na ca nc cc F L Q D : Nat) (AX AY CX CY : Nat → Int) (w : World) (hn : nm.size ≤ maxLen) (hA : TabIn w A na AX AY) (hC : TabIn w C nc CX CY)
    (hok : SecOK nm.data.toList H p na AX AY nc CX CY) (hQ : Q ≤ 1099511627776) (hF : F ≤ 4194304) (hL : 1 ≤ L) (hL' : L ≤ 16777216) (hD : DepthAt (fun x => capN (valK nc CX CY x) F L) H Q D) (d e : Int) (hde : (D ≤ H ∧ d = D ∧ e = 0) ∨ (H < D ∧ d = 0 ∧ e = 28)) :
    Calls Try.prog 23 #[.agg #[.string nm, .int .i64 (H : Int), .int .i64 p, .slice A na ca, .slice C nc cc], .int .i64 (Q : Int), .int .i64 (F : Int), .int .i64 (L : Int)] w fun e' w' => e' = .returned (.tuple #[.int .i64 d, .int .i64 e]) ∧ Below w.heap.size w w' := by
  have SV := Lib.hid fun w hA hC => rright nm H p A C na ca nc cc AX AY CX CY w hn hA hC
  have SS := Lib.hid fun w => rslope F L w
  have hs : slopeB F L = true := by simp [slopeB, betw]; omega
  have tv := boolOf_true hok
  have hh : H ≤ 32768 := by have := hok.2.2.1; omega
  have HA := Lib.hid hA
  have HC := Lib.hid hC
  obtain ⟨b, off, m, rfl, rfl, hT, hvt, h00, h01, h02, h03⟩ := sec_conv hok hC
  have SR : Hid (∀ (x : Nat), x ≤ H → ∀ w, TabAt w b off (m + 1) CX CY → Calls Try.prog 45 #[.agg #[.string nm, .int .i64 (H : Int), .int .i64 p, .slice A na ca, .slice (some ⟨b, off, none⟩) (m + 1 : Nat) cc], .int .i64 (x : Int), .int .i64 (F : Int), .int .i64 (L : Int)] w fun e w' => e = .returned (.int .i64 (capN (valK (m + 1) CX CY x) F L : Int)) ∧ Below w.heap.size w w') := fun x hx w ht =>
    rcarried nm H p A na ca b off m cc (valK (m + 1) CX CY x) F L CX CY x hvt (by omega) (valK_spec hvt h01 h03).1 (valK_spec hvt h01 h03).2 hF hL hL' w ht
  have HT := Lib.hid hT
  have hb := hT.1
  have U1 : decide ((Q : Int) < 0) = false := by simp
  have U2 : decide ((1099511627776 : Int) < (Q : Int)) = false := by simp <;> omega
  obtain ⟨J, hJ⟩ : ∃ J, J = H := ⟨_, rfl⟩
  have SH := Lib.hid (SR.out H (Nat.le_refl _))
  obtain ⟨vH, hvH⟩ : ∃ v, v = capN (valK (m + 1) CX CY (H : Nat)) F L := ⟨_, rfl⟩
  have hDJ : (D ≤ H → Q ≤ vH) ∧ (H < D → vH < Q) := by
    rw [hvH]
    exact ⟨fun h => hD.2.2 H h (Nat.le_refl _), fun h => hD.2.1 H h⟩
  rw [← hvH] at SH
  have HD := Lib.hid hD
  have HJ := Lib.hid hJ
  have HDE := Lib.hid hde
  have HHH := Lib.hid hh
  clear hA hC hok hT hvt h00 h01 h02 h03 hF hL hL' hQ hD hJ hde hh hn hvH
  rcases HDE.out with ⟨hd, rfl, rfl⟩ | ⟨hd, rfl, rfl⟩
  rotate_left
  · have T1 : decide (vH < Q) = true := decide_eq_true (hDJ.2 hd)
    clear hd hDJ
    go_enter Try.func23, Try.ntmps23
    go_wp2_with (first | (go_at_call 12; (with_reducible refine (SV.out _ ?_ ?_).mono ?_); (focus (exact HA.out.below (Nat.le_refl _) (by (repeat' (first | assumption | exact Below.refl _ _ | exact Below.size (by assumption) | (refine Below.setCell ?_ ?_ _) | (refine Below.alloc ?_ ?_ _) | (refine Below.drew ?_) | (refine below_drewN ?_ _) | (refine Below.trans ?_ (Below.mono ‹Below _ _ _› ?_)) | omega | (simp; done) | (simp; omega) | (simp at *; omega)))))); (focus (exact HC.out.below (Nat.le_refl _) (by (repeat' (first | assumption | exact Below.refl _ _ | exact Below.size (by assumption) | (refine Below.setCell ?_ ?_ _) | (refine Below.alloc ?_ ?_ _) | (refine Below.drew ?_) | (refine below_drewN ?_ _) | (refine Below.trans ?_ (Below.mono ‹Below _ _ _› ?_)) | omega | (simp; done) | (simp; omega) | (simp at *; omega)))))); rintro e w1 ⟨rfl, hb1⟩; obtain ⟨hc1, hf1⟩ := bcell hb1; have hz1 := hb1.size; (try simp at hz1); (try simp only [heap_drew, World.heap_drewN] at hz1); (try simp only [heap_drew, World.heap_drewN] at hc1); (try simp only [heap_drew, World.heap_drewN] at hf1); (try have hs1 := Nat.lt_of_succ_le hz1); (try have hs2 := Nat.lt_of_succ_lt hs1); (try have y0 : w.heap.size < w1.heap.size := by omega); (try have y1 : w.heap.size + 1 < w1.heap.size := by omega); (try have y2 : w.heap.size + 2 < w1.heap.size := by omega)) | (go_at_call 13; (with_reducible refine (SS.out _).mono ?_); rintro e w' ⟨rfl, rfl⟩) | (go_at_call 45; (with_reducible refine (SH.out _ ?_).mono ?_); (focus (exact HT.out.below (by (repeat' (first | assumption | exact Below.refl _ _ | exact Below.size (by assumption) | (refine Below.setCell ?_ ?_ _) | (refine Below.alloc ?_ ?_ _) | (refine Below.drew ?_) | (refine below_drewN ?_ _) | (refine Below.trans ?_ (Below.mono ‹Below _ _ _› ?_)) | omega | (simp; done) | (simp; omega) | (simp at *; omega)))) hb)); rintro e w1 ⟨rfl, hb1⟩; obtain ⟨hc1, hf1⟩ := bcell hb1; have hz1 := hb1.size; (try simp at hz1); (try simp only [heap_drew, World.heap_drewN] at hz1); (try simp only [heap_drew, World.heap_drewN] at hc1); (try simp only [heap_drew, World.heap_drewN] at hf1); (try have hs1 := Nat.lt_of_succ_le hz1); (try have hs2 := Nat.lt_of_succ_lt hs1); (try have y0 : w.heap.size < w1.heap.size := by omega); (try have y1 : w.heap.size + 1 < w1.heap.size := by omega); (try have y2 : w.heap.size + 2 < w1.heap.size := by omega)))
    go_ret2
    refine ⟨rfl, ?_⟩
    (repeat' (first | assumption | exact Below.refl _ _ | exact Below.size (by assumption) | (refine Below.setCell ?_ ?_ _) | (refine Below.alloc ?_ ?_ _) | (refine Below.drew ?_) | (refine below_drewN ?_ _) | (refine Below.trans ?_ (Below.mono ‹Below _ _ _› ?_)) | omega | (simp; done) | (simp; omega) | (simp at *; omega)))
  have T1 : decide (vH < Q) = false := decide_eq_false (by have := hDJ.1 hd; omega)
  have HDH := Lib.hid hd
  clear hd hDJ
  go_enter Try.func23, Try.ntmps23
  go_wp2_with (first | (go_at_call 12; (with_reducible refine (SV.out _ ?_ ?_).mono ?_); (focus (exact HA.out.below (Nat.le_refl _) (by (repeat' (first | assumption | exact Below.refl _ _ | exact Below.size (by assumption) | (refine Below.setCell ?_ ?_ _) | (refine Below.alloc ?_ ?_ _) | (refine Below.drew ?_) | (refine below_drewN ?_ _) | (refine Below.trans ?_ (Below.mono ‹Below _ _ _› ?_)) | omega | (simp; done) | (simp; omega) | (simp at *; omega)))))); (focus (exact HC.out.below (Nat.le_refl _) (by (repeat' (first | assumption | exact Below.refl _ _ | exact Below.size (by assumption) | (refine Below.setCell ?_ ?_ _) | (refine Below.alloc ?_ ?_ _) | (refine Below.drew ?_) | (refine below_drewN ?_ _) | (refine Below.trans ?_ (Below.mono ‹Below _ _ _› ?_)) | omega | (simp; done) | (simp; omega) | (simp at *; omega)))))); rintro e w1 ⟨rfl, hb1⟩; obtain ⟨hc1, hf1⟩ := bcell hb1; have hz1 := hb1.size; (try simp at hz1); (try simp only [heap_drew, World.heap_drewN] at hz1); (try simp only [heap_drew, World.heap_drewN] at hc1); (try simp only [heap_drew, World.heap_drewN] at hf1); (try have hs1 := Nat.lt_of_succ_le hz1); (try have hs2 := Nat.lt_of_succ_lt hs1); (try have y0 : w.heap.size < w1.heap.size := by omega); (try have y1 : w.heap.size + 1 < w1.heap.size := by omega); (try have y2 : w.heap.size + 2 < w1.heap.size := by omega)) | (go_at_call 13; (with_reducible refine (SS.out _).mono ?_); rintro e w' ⟨rfl, rfl⟩) | (go_at_call 45; (with_reducible refine (SH.out _ ?_).mono ?_); (focus (exact HT.out.below (by (repeat' (first | assumption | exact Below.refl _ _ | exact Below.size (by assumption) | (refine Below.setCell ?_ ?_ _) | (refine Below.alloc ?_ ?_ _) | (refine Below.drew ?_) | (refine below_drewN ?_ _) | (refine Below.trans ?_ (Below.mono ‹Below _ _ _› ?_)) | omega | (simp; done) | (simp; omega) | (simp at *; omega)))) hb)); rintro e w2 ⟨rfl, hb2⟩; obtain ⟨hc2, hf2⟩ := bcell hb2; have hz2 := hb2.size; (try simp at hz2); (try simp only [heap_drew, World.heap_drewN] at hz2); (try simp only [heap_drew, World.heap_drewN] at hc2); (try simp only [heap_drew, World.heap_drewN] at hf2); (try have hs1 := Nat.lt_of_succ_le hz2); (try have hs2 := Nat.lt_of_succ_lt hs1); (try have y0 : w.heap.size < w2.heap.size := by omega); (try have y1 : w.heap.size + 1 < w2.heap.size := by omega); (try have y2 : w.heap.size + 2 < w2.heap.size := by omega)))
  go_quiet (fail)
  go_wp2_with fail
  have hzw : w.heap.size < (w2.drewN nq).heap.size := by simp; omega
  have HBK : Hid (Blk (w2.drewN nq) w.heap.size 25 #[.string nm, .int .i64 (H : Int), .int .i64 p, .slice A na ca, .slice (some ⟨b, off, none⟩) (m + 1 : Nat) cc]) := (((Blk.new w _ _).call hb1).call hb2).drewN nq
  have HBW : Hid (Below w.heap.size w (w2.drewN nq)) := by show Below w.heap.size w (w2.drewN nq); (repeat' (first | assumption | exact Below.refl _ _ | exact Below.size (by assumption) | (refine Below.setCell ?_ ?_ _) | (refine Below.alloc ?_ ?_ _) | (refine Below.drew ?_) | (refine below_drewN ?_ _) | (refine Below.trans ?_ (Below.mono ‹Below _ _ _› ?_)) | omega | (simp; done) | (simp; omega) | (simp at *; omega)))
  clear hc1 hf1 hb1 hc2 hf2 hb2
  go_loopw [10, 11] (fun u v wr => ∃ i j : Nat, Hid (i ≤ D ∧ D ≤ j ∧ j ≤ J) ∧ u = .int .i64 i ∧ v = .int .i64 j ∧ Hid (Blk wr w.heap.size 25 #[.string nm, .int .i64 (H : Int), .int .i64 p, .slice A na ca, .slice (some ⟨b, off, none⟩) (m + 1 : Nat) cc]) ∧ Hid (Below w.heap.size w wr)) (fun u v _ => (intOf v - intOf u).toNat)
  case atStart => exact ⟨0, H, ⟨Nat.zero_le _, HDH.out, by have := HJ.out; omega⟩, rfl, rfl, HBK, HBW⟩
  case round =>
    obtain ⟨i, j, hij, rfl, rfl, HB, HW⟩ := hrel
    have e0 := HB.out.cell 0
    have e1 := HB.out.cell 1
    have e2 := HB.out.cell 2
    have e3 := HB.out.cell 3
    have e4 := HB.out.cell 4
    simp only [List.getElem?_toArray, List.getElem?_cons_succ, List.getElem?_cons_zero] at e0 e1 e2 e3 e4
    have hlw := HB.out.lt
    by_cases hlt : i < j
    · obtain ⟨k, hk1, hk2, hk3⟩ : ∃ k, i ≤ k ∧ k < j ∧ k = (i + j) / 2 := ⟨(i + j) / 2, by omega, by omega, rfl⟩
      obtain ⟨z, hz⟩ : ∃ z, z = i + j := ⟨_, rfl⟩
      have y1 : IntKind.i64.wrap ((i : Int) + (j : Int)) = (z : Int) := add_w hz (by have := hij.out; have := HJ.out; have := HHH.out; omega)
      have y2 : (z : Int) / 2 = (k : Int) := by omega
      have y3 : IntKind.i64.wrap (k : Int) = (k : Int) := by have := hij.out; have := HJ.out; have := HHH.out; exact w_id (by omega) (by omega) rfl
      have y4 : IntKind.i64.wrap ((k : Int) + 1) = ((k + 1 : Nat) : Int) := by have := hij.out; have := HJ.out; have := HHH.out; exact w_id (by omega) (by omega) (by omega)
      obtain ⟨k', hk'⟩ : ∃ z, z = k + 1 := ⟨_, rfl⟩
      rw [← hk'] at y4
      have T0 : decide (i < j) = true := decide_eq_true hlt
      have HK : Hid (i ≤ k ∧ k < j ∧ k' = k + 1) := ⟨hk1, hk2, hk'⟩
      obtain ⟨v, hv⟩ : ∃ v, v = capN (valK (m + 1) CX CY k) F L := ⟨_, rfl⟩
      have SK := Lib.hid (fun w ht => SR.out k (by have := hij.out; have := HJ.out; omega) w ht)
      rw [← hv] at SK
      have HTr := Lib.hid (HT.out.below HW.out hb)
      by_cases hq : Q ≤ v
      · have HQ : Hid (D ≤ k) := by
          apply Nat.le_of_not_lt
          intro h
          have this : capN (valK (m + 1) CX CY k) F L < Q := HD.out.2.1 k h
          rw [← hv] at this
          omega
        have T1 : decide (Q ≤ v) = true := decide_eq_true hq
        clear hk1 hk2 hk3 hk' hv hq hlt hz
        go_wp2_with (first | (go_at_call 45; (with_reducible refine (SK.out _ ?_).mono ?_); (focus (exact HTr.out)); rintro e w1 ⟨rfl, hb1⟩; obtain ⟨hc1, hf1⟩ := bcell hb1; have hz1 := hb1.size; (try simp at hz1); (try simp only [heap_drew, World.heap_drewN] at hz1); (try simp only [heap_drew, World.heap_drewN] at hc1); (try simp only [heap_drew, World.heap_drewN] at hf1); (try have hs1 := Nat.lt_of_succ_le hz1); (try have hs2 := Nat.lt_of_succ_lt hs1); (try have y0 : w.heap.size < w1.heap.size := by omega); (try have y1 : w.heap.size + 1 < w1.heap.size := by omega); (try have y2 : w.heap.size + 2 < w1.heap.size := by omega)))
        go_roundw
        case rel => exact ⟨i, k, depth_left hij.out HK.out HQ.out, rfl, rfl, HB.out.below hb1 hlw, HW.out.trans (hb1.mono HW.out.size)⟩
        case measure => exact depth_m1 HK.out
      · have HQ : Hid (k + 1 ≤ D) := by
          apply Nat.lt_of_not_le
          intro h
          have h2 := hij.out
          have this : Q ≤ capN (valK (m + 1) CX CY k) F L := HD.out.2.2 k h (by have := HJ.out; omega)
          rw [← hv] at this
          omega
        have T1 : decide (Q ≤ v) = false := decide_eq_false hq
        clear hk1 hk2 hk3 hk' hv hq hlt hz
        go_wp2_with (first | (go_at_call 45; (with_reducible refine (SK.out _ ?_).mono ?_); (focus (exact HTr.out)); rintro e w1 ⟨rfl, hb1⟩; obtain ⟨hc1, hf1⟩ := bcell hb1; have hz1 := hb1.size; (try simp at hz1); (try simp only [heap_drew, World.heap_drewN] at hz1); (try simp only [heap_drew, World.heap_drewN] at hc1); (try simp only [heap_drew, World.heap_drewN] at hf1); (try have hs1 := Nat.lt_of_succ_le hz1); (try have hs2 := Nat.lt_of_succ_lt hs1); (try have y0 : w.heap.size < w1.heap.size := by omega); (try have y1 : w.heap.size + 1 < w1.heap.size := by omega); (try have y2 : w.heap.size + 2 < w1.heap.size := by omega)))
        go_roundw
        case rel => exact ⟨k', j, depth_right hij.out HK.out HQ.out, rfl, rfl, HB.out.below hb1 hlw, HW.out.trans (hb1.mono HW.out.size)⟩
        case measure => exact depth_m2 HK.out
    · have hD : i = D ∧ j = D := by have := hij.out; omega
      obtain ⟨rfl, rfl⟩ := hD
      have T0 : decide (j < j) = false := decide_eq_false (by omega)
      have hnl : ¬ j < j := by omega
      clear hlt
      go_wp2_with fail
      go_ret2
      exact ⟨rfl, HW.out⟩

end Go.Proofs.Ytchapkjloicfnaa

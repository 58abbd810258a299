/- The least depth that carries a flow, by the package. -/
import Derived.Test.YtchapkjloicfnaaCap
import Derived.Test.YtchapkjloicfnaaCircle
namespace Go.Proofs.Ytchapkjloicfnaa
open Go.RowKit
set_option linter.unusedVariables false
set_option linter.unusedSimpArgs false

/-- What Depth answers: D is the least depth that carries the flow, or one more than the height. -/
def DepthAt (v : Nat → Nat) (H Q D : Nat) : Prop := D ≤ H + 1 ∧ (∀ x, x < D → v x < Q) ∧ (∀ x, D ≤ x → x ≤ H → Q ≤ v x)
theorem least_ex (v : Nat → Nat) (Q : Nat) : ∀ n : Nat, ∃ D, D ≤ n ∧ (∀ x, x < D → v x < Q) ∧ (D = n ∨ Q ≤ v D) := by
  intro n
  induction n with
  | zero => exact ⟨0, Nat.le_refl _, fun x hx => absurd hx (by omega), .inl rfl⟩
  | succ n ih =>
    obtain ⟨D, h1, h2, h3⟩ := ih
    by_cases h : Q ≤ v D
    · exact ⟨D, by omega, h2, .inr h⟩
    · have hD : D = n := by
        rcases h3 with h3 | h3
        · exact h3
        · exact absurd h3 h
      refine ⟨n + 1, Nat.le_refl _, fun x hx => ?_, .inl rfl⟩
      rcases Nat.lt_or_ge x n with h4 | h4
      · exact h2 x (by omega)
      · have : x = D := by omega
        rw [this]; omega
theorem depth_ex (v : Nat → Nat) (H Q : Nat) (hm : ∀ x y, x ≤ y → v x ≤ v y) : ∃ D, DepthAt v H Q D := by
  obtain ⟨D, h1, h2, h3⟩ := least_ex v Q (H + 1)
  refine ⟨D, h1, h2, fun x hx hx' => ?_⟩
  rcases h3 with h3 | h3
  · omega
  · exact Nat.le_trans h3 (hm _ _ hx)

theorem depth_left {i j k k' D J : Nat} (h : i ≤ D ∧ D ≤ j ∧ j ≤ J) (hk : i ≤ k ∧ k < j ∧ k' = k + 1) (hq : D ≤ k) : i ≤ D ∧ D ≤ k ∧ k ≤ J := by omega
theorem depth_right {i j k k' D J : Nat} (h : i ≤ D ∧ D ≤ j ∧ j ≤ J) (hk : i ≤ k ∧ k < j ∧ k' = k + 1) (hq : k + 1 ≤ D) : k' ≤ D ∧ D ≤ j ∧ j ≤ J := by omega
theorem depth_m1 {i j k k' : Nat} (hk : i ≤ k ∧ k < j ∧ k' = k + 1) : (intOf (Value.int .i64 (k : Int)) - intOf (Value.int .i64 (i : Int))).toNat < (intOf (Value.int .i64 (j : Int)) - intOf (Value.int .i64 (i : Int))).toNat := by simp [intOf]; omega
theorem depth_m2 {i j k k' : Nat} (hk : i ≤ k ∧ k < j ∧ k' = k + 1) : (intOf (Value.int .i64 (j : Int)) - intOf (Value.int .i64 (k' : Int))).toNat < (intOf (Value.int .i64 (j : Int)) - intOf (Value.int .i64 (i : Int))).toNat := by simp [intOf]; omega
set_option maxRecDepth 100000 in
set_option maxHeartbeats 2000000 in
theorem cdepth_main (nm : ByteArray) (p : Int) (A C : Option Addr) (H na ca nc cc F L Q D : Nat) (AX AY CX CY : Nat → Int) (w : World) (hn : nm.size ≤ maxLen) (hA : TabIn w A na AX AY) (hC : TabIn w C nc CX CY)
    (hok : SecOK nm.data.toList H p na AX AY nc CX CY) (hQ : Q ≤ 1099511627776) (hF : F ≤ 4194304) (hL : 1 ≤ L) (hL' : L ≤ 16777216) (hD : DepthAt (fun x => capN (valK nc CX CY x) F L) H Q D) (d e : Int) (hde : (D ≤ H ∧ d = D ∧ e = 0) ∨ (H < D ∧ d = 0 ∧ e = 28)) :
    Calls Try.prog 22 #[.agg #[.string nm, .int .i64 (H : Int), .int .i64 p, .slice A na ca, .slice C nc cc], .int .i64 (Q : Int), .int .i64 (F : Int), .int .i64 (L : Int)] w fun e' w' => e' = .returned (.tuple #[.int .i64 d, .int .i64 e]) ∧ Below w.heap.size w w' := by
  have SV := Lib.hid fun w hA hC => cvalid nm H p A C na ca nc cc AX AY CX CY w hn hA hC
  have SS := Lib.hid fun w => cslope F L w
  have hs : slopeB F L = true := by simp [slopeB, betw]; omega
  have tv := boolOf_true hok
  have hh : H ≤ 32768 := by have := hok.2.2.1; omega
  have HA := Lib.hid hA
  have HC := Lib.hid hC
  obtain ⟨b, off, m, rfl, rfl, hT, hvt, h00, h01, h02, h03⟩ := sec_conv hok hC
  have SR := Lib.hid fun (x : Nat) w ht => ccarried nm H p A na ca b off m cc (valK (m + 1) CX CY x) F L CX CY x hvt (valK_spec hvt h01 h03).1 (valK_spec hvt h01 h03).2 hF hL hL' w ht
  have HT := Lib.hid hT
  have hb := hT.1
  have U1 : decide ((Q : Int) < 0) = false := by simp
  have U2 : decide ((1099511627776 : Int) < (Q : Int)) = false := by simp <;> omega
  have x1 : IntKind.i64.wrap ((H : Int) + 1) = ((H + 1 : Nat) : Int) := by rw [IntKind.wrap_i64]; omega
  obtain ⟨J, hJ⟩ : ∃ J, J = H + 1 := ⟨_, rfl⟩
  rw [← hJ] at x1
  have HD := Lib.hid hD
  have HJ := Lib.hid hJ
  have HDE := Lib.hid hde
  have HHH := Lib.hid hh
  clear hA hC hok hT hvt h00 h01 h02 h03 hF hL hL' hQ hD hJ hde hh hn
  go_enter Try.func22, Try.ntmps22
  go_wp2_with (first | (go_at_call 33; (with_reducible refine (SV.out _ ?_ ?_).mono ?_); (focus (exact HA.out.below (Nat.le_refl _) (by (repeat' (first | assumption | exact Below.refl _ _ | exact Below.size (by assumption) | (refine Below.setCell ?_ ?_ _) | (refine Below.alloc ?_ ?_ _) | (refine Below.drew ?_) | (refine below_drewN ?_ _) | (refine Below.trans ?_ (Below.mono ‹Below _ _ _› ?_)) | omega | (simp; done) | (simp; omega) | (simp at *; omega)))))); (focus (exact HC.out.below (Nat.le_refl _) (by (repeat' (first | assumption | exact Below.refl _ _ | exact Below.size (by assumption) | (refine Below.setCell ?_ ?_ _) | (refine Below.alloc ?_ ?_ _) | (refine Below.drew ?_) | (refine below_drewN ?_ _) | (refine Below.trans ?_ (Below.mono ‹Below _ _ _› ?_)) | omega | (simp; done) | (simp; omega) | (simp at *; omega)))))); rintro e w1 ⟨rfl, hb1⟩; obtain ⟨hc1, hf1⟩ := bcell hb1; have hz1 := hb1.size; (try simp at hz1); (try simp only [heap_drew, World.heap_drewN] at hz1); (try simp only [heap_drew, World.heap_drewN] at hc1); (try simp only [heap_drew, World.heap_drewN] at hf1); (try have hs1 := Nat.lt_of_succ_le hz1); (try have hs2 := Nat.lt_of_succ_lt hs1); (try have y0 : w.heap.size < w1.heap.size := by omega); (try have y1 : w.heap.size + 1 < w1.heap.size := by omega); (try have y2 : w.heap.size + 2 < w1.heap.size := by omega)) | (go_at_call 34; (with_reducible refine (SS.out _).mono ?_); rintro e w' ⟨rfl, rfl⟩))
  go_quiet (fail)
  go_wp2_with fail
  have hzw : w.heap.size < (w1.drewN nq).heap.size := by simp; omega
  obtain ⟨c1', c2'⟩ := bcell hb1
  have HBK : Hid (Blk (w1.drewN nq) w.heap.size 25 #[.string nm, .int .i64 (H : Int), .int .i64 p, .slice A na ca, .slice (some ⟨b, off, none⟩) (m + 1 : Nat) cc]) := ((Blk.new w _ _).below hb1 (by simp)).drewN nq
  have HBW : Hid (Below w.heap.size w (w1.drewN nq)) := by show Below w.heap.size w (w1.drewN nq); (repeat' (first | assumption | exact Below.refl _ _ | exact Below.size (by assumption) | (refine Below.setCell ?_ ?_ _) | (refine Below.alloc ?_ ?_ _) | (refine Below.drew ?_) | (refine below_drewN ?_ _) | (refine Below.trans ?_ (Below.mono ‹Below _ _ _› ?_)) | omega | (simp; done) | (simp; omega) | (simp at *; omega)))
  clear hc1 hf1 c1' c2' hb1
  go_loopw [10, 11] (fun u v wr => ∃ i j : Nat, Hid (i ≤ D ∧ D ≤ j ∧ j ≤ J) ∧ u = .int .i64 i ∧ v = .int .i64 j ∧ Hid (Blk wr w.heap.size 25 #[.string nm, .int .i64 (H : Int), .int .i64 p, .slice A na ca, .slice (some ⟨b, off, none⟩) (m + 1 : Nat) cc]) ∧ Hid (Below w.heap.size w wr)) (fun u v _ => (intOf v - intOf u).toNat)
  case atStart => exact ⟨0, J, ⟨Nat.zero_le _, by have := HD.out.1; have := HJ.out; omega, Nat.le_refl _⟩, rfl, rfl, HBK, HBW⟩
  case round =>
    obtain ⟨i, j, hij, rfl, rfl, HB, HW⟩ := hrel
    have e0 := HB.out.cell 0
    have e1 := HB.out.cell 1
    have e2 := HB.out.cell 2
    have e3 := HB.out.cell 3
    have e4 := HB.out.cell 4
    simp only [List.getElem?_toArray, List.getElem?_cons_succ, List.getElem?_cons_zero] at e0 e1 e2 e3 e4
    have hlw := HB.out.lt
    by_cases hlt : i < j
    · obtain ⟨k, hk1, hk2, hk3⟩ : ∃ k, i ≤ k ∧ k < j ∧ k = (i + j) / 2 := ⟨(i + j) / 2, by omega, by omega, rfl⟩
      obtain ⟨z, hz⟩ : ∃ z, z = i + j := ⟨_, rfl⟩
      have y1 : IntKind.i64.wrap ((i : Int) + (j : Int)) = (z : Int) := add_w hz (by have := hij.out; have := HJ.out; have := HHH.out; omega)
      have y2 : (z : Int) / 2 = (k : Int) := by omega
      have y3 : IntKind.i64.wrap (k : Int) = (k : Int) := by have := hij.out; have := HJ.out; have := HHH.out; exact w_id (by omega) (by omega) rfl
      have y4 : IntKind.i64.wrap ((k : Int) + 1) = ((k + 1 : Nat) : Int) := by have := hij.out; have := HJ.out; have := HHH.out; exact w_id (by omega) (by omega) (by omega)
      obtain ⟨k', hk'⟩ : ∃ z, z = k + 1 := ⟨_, rfl⟩
      rw [← hk'] at y4
      have T0 : decide (i < j) = true := decide_eq_true hlt
      have HK : Hid (i ≤ k ∧ k < j ∧ k' = k + 1) := ⟨hk1, hk2, hk'⟩
      obtain ⟨v, hv⟩ : ∃ v, v = capN (valK (m + 1) CX CY k) F L := ⟨_, rfl⟩
      have SK := Lib.hid (fun w ht => SR.out k w ht)
      rw [← hv] at SK
      have HTr := Lib.hid (HT.out.below HW.out hb)
      by_cases hq : Q ≤ v
      · have HQ : Hid (D ≤ k) := by
          apply Nat.le_of_not_lt
          intro h
          have this : capN (valK (m + 1) CX CY k) F L < Q := HD.out.2.1 k h
          rw [← hv] at this
          omega
        have T1 : decide (Q ≤ v) = true := decide_eq_true hq
        clear hk1 hk2 hk3 hk' hv hq hlt hz
        go_wp2_with (first | (go_at_call 35; (with_reducible refine (SK.out _ ?_).mono ?_); (focus (exact HTr.out)); rintro e w1 ⟨rfl, hb1⟩; obtain ⟨hc1, hf1⟩ := bcell hb1; have hz1 := hb1.size; (try simp at hz1); (try simp only [heap_drew, World.heap_drewN] at hz1); (try simp only [heap_drew, World.heap_drewN] at hc1); (try simp only [heap_drew, World.heap_drewN] at hf1); (try have hs1 := Nat.lt_of_succ_le hz1); (try have hs2 := Nat.lt_of_succ_lt hs1); (try have y0 : w.heap.size < w1.heap.size := by omega); (try have y1 : w.heap.size + 1 < w1.heap.size := by omega); (try have y2 : w.heap.size + 2 < w1.heap.size := by omega)))
        go_roundw
        case rel => exact ⟨i, k, depth_left hij.out HK.out HQ.out, rfl, rfl, HB.out.below hb1 hlw, HW.out.trans (hb1.mono HW.out.size)⟩
        case measure => exact depth_m1 HK.out
      · have HQ : Hid (k + 1 ≤ D) := by
          apply Nat.lt_of_not_le
          intro h
          have h2 := hij.out
          have this : Q ≤ capN (valK (m + 1) CX CY k) F L := HD.out.2.2 k h (by have := HJ.out; omega)
          rw [← hv] at this
          omega
        have T1 : decide (Q ≤ v) = false := decide_eq_false hq
        clear hk1 hk2 hk3 hk' hv hq hlt hz
        go_wp2_with (first | (go_at_call 35; (with_reducible refine (SK.out _ ?_).mono ?_); (focus (exact HTr.out)); rintro e w1 ⟨rfl, hb1⟩; obtain ⟨hc1, hf1⟩ := bcell hb1; have hz1 := hb1.size; (try simp at hz1); (try simp only [heap_drew, World.heap_drewN] at hz1); (try simp only [heap_drew, World.heap_drewN] at hc1); (try simp only [heap_drew, World.heap_drewN] at hf1); (try have hs1 := Nat.lt_of_succ_le hz1); (try have hs2 := Nat.lt_of_succ_lt hs1); (try have y0 : w.heap.size < w1.heap.size := by omega); (try have y1 : w.heap.size + 1 < w1.heap.size := by omega); (try have y2 : w.heap.size + 2 < w1.heap.size := by omega)))
        go_roundw
        case rel => exact ⟨k', j, depth_right hij.out HK.out HQ.out, rfl, rfl, HB.out.below hb1 hlw, HW.out.trans (hb1.mono HW.out.size)⟩
        case measure => exact depth_m2 HK.out
    · have hD : i = D ∧ j = D := by have := hij.out; omega
      obtain ⟨rfl, rfl⟩ := hD
      have T0 : decide (j < j) = false := decide_eq_false (by omega)
      have hnl : ¬ j < j := by omega
      clear hlt
      rcases HDE.out with ⟨hd, rfl, rfl⟩ | ⟨hd, rfl, rfl⟩
      · have T1 : decide (H < j) = false := decide_eq_false (by omega)
        clear hd
        go_wp2_with fail
        go_ret2
        exact ⟨rfl, HW.out⟩
      · have T1 : decide (H < j) = true := decide_eq_true hd
        clear hd
        go_wp2_with fail
        go_ret2
        exact ⟨rfl, HW.out⟩
end Go.Proofs.Ytchapkjloicfnaa

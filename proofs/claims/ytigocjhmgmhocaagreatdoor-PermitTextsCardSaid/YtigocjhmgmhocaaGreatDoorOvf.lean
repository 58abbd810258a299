/- Events in memory; whether they are right, on both sides; the package's Count. -/
import Derived.Test.YtigocjhmgmhocaaGreatDoorBase
import Derived.Test.YtigocjhmgmhocaaGreatDoorPrmP
namespace Go.Proofs.YtigocjhmgmhocaaGreatDoor
open Go.RowKit
set_option linter.unusedVariables false
set_option linter.unusedSimpArgs false

/-- n events from an address on. -/
def EvAt (w : World) (b off n : Nat) (E : Evs) : Prop := b < w.heap.size ∧ ∀ k, k < n → w.cell? ⟨b, off + k * 4, none⟩ = some (.int .i64 (E.F k)) ∧ w.cell? ⟨b, off + k * 4 + 1, none⟩ = some (.int .i64 (E.To k)) ∧ w.cell? ⟨b, off + k * 4 + 2, none⟩ = some (.int .i64 (E.Tot k)) ∧ w.cell? ⟨b, off + k * 4 + 3, none⟩ = some (.int .i64 (E.Pk k))
theorem EvAt.below {w w' : World} {B b off n : Nat} {E : Evs} (h : EvAt w b off n E) (hb : Below B w w') (hB : b < B) : EvAt w' b off n E :=
  ⟨Nat.lt_of_lt_of_le h.1 (Nat.le_trans (Nat.le_refl _) hb.size), fun k hk => by
    obtain ⟨h0, h1, h2, h3⟩ := h.2 k hk
    exact ⟨(hb.cell (p := ⟨b, off + k * 4, none⟩) hB).trans h0, (hb.cell (p := ⟨b, off + k * 4 + 1, none⟩) hB).trans h1, (hb.cell (p := ⟨b, off + k * 4 + 2, none⟩) hB).trans h2, (hb.cell (p := ⟨b, off + k * 4 + 3, none⟩) hB).trans h3⟩⟩
/-- A slice of events, nil perhaps. -/
def EvIn (w : World) (A : Option Addr) (n : Nat) (E : Evs) : Prop := n ≤ 9223372036854775807 ∧ (n = 0 ∨ ∃ b off, A = some ⟨b, off, none⟩ ∧ EvAt w b off n E)
theorem EvIn.below {w w' : World} {B n : Nat} {A : Option Addr} {E : Evs} (h : EvIn w A n E) (hB : w.heap.size ≤ B) (hb : Below B w w') : EvIn w' A n E := by
  refine ⟨h.1, ?_⟩
  rcases h.2 with h0 | ⟨b, off, hA, ht⟩
  · exact .inl h0
  · exact .inr ⟨b, off, hA, ht.below hb (Nat.lt_of_lt_of_le ht.1 hB)⟩
theorem EvIn.take {w : World} {A : Option Addr} {n m : Nat} {E : Evs} (h : EvIn w A n E) (hm : m ≤ n) : EvIn w A m E := by
  refine ⟨Nat.le_trans hm h.1, ?_⟩
  rcases h.2 with h0 | ⟨b, off, hA, ht⟩
  · exact .inl (by omega)
  · exact .inr ⟨b, off, hA, ht.1, fun k hk => ht.2 k (by omega)⟩
/-- The slice's cells at an index, wherever it lies. -/
theorem EvIn.at {w : World} {A : Option Addr} {n k : Nat} {E : Evs} (h : EvIn w A n E) (hk : k < n) : ∃ b off, A = some ⟨b, off, none⟩ ∧ b < w.heap.size ∧ w.cell? ⟨b, off + k * 4, none⟩ = some (.int .i64 (E.F k)) ∧ w.cell? ⟨b, off + k * 4 + 1, none⟩ = some (.int .i64 (E.To k)) ∧ w.cell? ⟨b, off + k * 4 + 2, none⟩ = some (.int .i64 (E.Tot k)) ∧ w.cell? ⟨b, off + k * 4 + 3, none⟩ = some (.int .i64 (E.Pk k)) := by
  rcases h.2 with h0 | ⟨b, off, hA, ht⟩
  · omega
  · exact ⟨b, off, hA, ht.1, ht.2 k hk⟩

set_option maxRecDepth 100000 in
set_option maxHeartbeats 4000000 in
theorem tright (A : Option Addr) (n c : Nat) (E : Evs) (h40 : n ≤ 40) (w : World) (hT : EvIn w A n E) (rb : Bool) (hr : rb = true ↔ rightP E n) : Calls Tryz.prog 68 #[.slice A n c] w fun e w' => e = .returned (.bool rb) ∧ Below w.heap.size w w' := by
  have HT := Lib.hid hT
  have H40 := Lib.hid h40
  have HR := Lib.hid hr
  have t0 : decide ((10000 : Int) < (n : Int)) = false := decide_eq_false (by omega)
  clear hT h40 hr
  go_enter Tryz.func68, Tryz.ntmps68
  go_wp2_with fail
  go_loopw [3, 11] (fun u v wr => ∃ i : Nat, Hid (i ≤ n) ∧ Hid (∀ j, j < i → evRight E j) ∧ u = .int .i64 (lastTo E i) ∧ v = .int .i64 i ∧ Hid (Below w.heap.size w wr)) (fun _ v _ => n - (intOf v).toNat)
  case atStart => exact ⟨0, Nat.zero_le _, fun j hj => absurd hj (Nat.not_lt_zero _), rfl, rfl, by (repeat' (first | assumption | exact Below.refl _ _ | exact Below.size (by assumption) | (refine Below.setCell ?_ ?_ _) | (refine Below.alloc ?_ ?_ _) | (refine Below.drew ?_) | (refine below_drewN ?_ _) | (refine Below.trans ?_ (Below.mono ‹Below _ _ _› ?_)) | omega | (simp; done) | (simp; omega) | (simp at *; omega)))⟩
  case round =>
    obtain ⟨i, Hi, HG, rfl, rfl, HW⟩ := hrel
    by_cases hlt : i < n
    · have T0 : decide ((i : Int) < (n : Int)) = true := by simp <;> omega
      obtain ⟨i', hi'⟩ : ∃ z, z = i + 1 := ⟨_, rfl⟩
      have x0 : IntKind.i64.wrap ((i : Int) + 1) = (i' : Int) := by have := H40.out; rw [IntKind.wrap_i64]; omega
      have HI' : Hid (i' ≤ n) := by show i' ≤ n; omega
      have HMS : Hid (n - (intOf (Value.int .i64 (i' : Int))).toNat < n - (intOf (Value.int .i64 (i : Int))).toNat) := by show _ < _; simp [intOf]; omega
      have k0 : (0 : Int) ≤ (i : Int) := by omega
      have k1 : (i : Int) < (n : Int) := by omega
      obtain ⟨b, off, rfl, hb, c0, c1, c2, c3⟩ := (HT.out.below (Nat.le_refl _) HW.out).at hlt
      obtain ⟨f, hf⟩ : ∃ z, z = E.F i := ⟨_, rfl⟩
      obtain ⟨t, ht⟩ : ∃ z, z = E.To i := ⟨_, rfl⟩
      obtain ⟨tt, htt⟩ : ∃ z, z = E.Tot i := ⟨_, rfl⟩
      obtain ⟨pk, hpk⟩ : ∃ z, z = E.Pk i := ⟨_, rfl⟩
      obtain ⟨a, ha⟩ : ∃ z, z = lastTo E i := ⟨_, rfl⟩
      have ha' : lastTo E i' = t := by rw [hi', ht]; rfl
      have ha0 : 0 ≤ a := by
        rw [ha]
        cases i with
        | zero => exact Int.le_refl _
        | succ k =>
          have : rightP E (k + 1) := ⟨by have := H40.out; omega, HG.out⟩
          exact this.to_nn (k + 1) (Nat.le_refl _)
      rw [← hf] at c0
      rw [← ht] at c1
      rw [← htt] at c2
      rw [← hpk] at c3
      rw [← ha]
      have hev : Hid (evRight E i ↔ evR a f t tt pk) := by show _ ↔ _; unfold evRight; rw [← ha, ← hf, ← ht, ← htt, ← hpk]
      have HBAD : Hid (¬ evR a f t tt pk → rb = false) := by
        show _ → _
        intro h
        cases hrb : rb with
        | false => rfl
        | true => exact absurd (hev.out.1 ((HR.out.1 hrb).2 i hlt)) h
      have HGOOD : Hid (evR a f t tt pk → ∀ j, j < i' → evRight E j) := by
        show _ → _
        intro h j hj
        rcases Nat.lt_or_ge j i with g | g
        · exact HG.out j g
        · obtain rfl : j = i := by omega
          exact hev.out.2 h
      have HU : Hid (Value.int .i64 t = .int .i64 (lastTo E i')) := by show _ = _; rw [ha']
      clear hi' hlt hf ht htt hpk ha ha' hev
      by_cases g0 : f < a
      · have t1 : decide (f < a) = true := decide_eq_true g0
        obtain rfl : rb = false := HBAD.out (by unfold evR; omega)
        clear ha0 g0
        go_wp2_with fail
        go_ret
        exact ⟨rfl, by have := HW.out; (repeat' (first | assumption | exact Below.refl _ _ | exact Below.size (by assumption) | (refine Below.setCell ?_ ?_ _) | (refine Below.alloc ?_ ?_ _) | (refine Below.drew ?_) | (refine below_drewN ?_ _) | (refine Below.trans ?_ (Below.mono ‹Below _ _ _› ?_)) | omega | (simp; done) | (simp; omega) | (simp at *; omega)))⟩
      · have t1 : decide (f < a) = false := decide_eq_false g0
        by_cases g1 : t ≤ f
        · have t2 : decide (t ≤ f) = true := decide_eq_true g1
          obtain rfl : rb = false := HBAD.out (by unfold evR; omega)
          clear ha0 g0 g1
          go_wp2_with fail
          go_ret
          exact ⟨rfl, by have := HW.out; (repeat' (first | assumption | exact Below.refl _ _ | exact Below.size (by assumption) | (refine Below.setCell ?_ ?_ _) | (refine Below.alloc ?_ ?_ _) | (refine Below.drew ?_) | (refine below_drewN ?_ _) | (refine Below.trans ?_ (Below.mono ‹Below _ _ _› ?_)) | omega | (simp; done) | (simp; omega) | (simp at *; omega)))⟩
        · have t2 : decide (t ≤ f) = false := decide_eq_false g1
          by_cases g2 : 10000 < t
          · have t3 : decide ((10000 : Int) < t) = true := decide_eq_true g2
            obtain rfl : rb = false := HBAD.out (by unfold evR; omega)
            clear ha0 g0 g1 g2
            go_wp2_with fail
            go_ret
            exact ⟨rfl, by have := HW.out; (repeat' (first | assumption | exact Below.refl _ _ | exact Below.size (by assumption) | (refine Below.setCell ?_ ?_ _) | (refine Below.alloc ?_ ?_ _) | (refine Below.drew ?_) | (refine below_drewN ?_ _) | (refine Below.trans ?_ (Below.mono ‹Below _ _ _› ?_)) | omega | (simp; done) | (simp; omega) | (simp at *; omega)))⟩
          · have t3 : decide ((10000 : Int) < t) = false := decide_eq_false g2
            by_cases g3 : pk < 1
            · have t4 : decide (pk < (1 : Int)) = true := decide_eq_true g3
              obtain rfl : rb = false := HBAD.out (by unfold evR; omega)
              clear ha0 g0 g1 g2 g3
              go_wp2_with fail
              go_ret
              exact ⟨rfl, by have := HW.out; (repeat' (first | assumption | exact Below.refl _ _ | exact Below.size (by assumption) | (refine Below.setCell ?_ ?_ _) | (refine Below.alloc ?_ ?_ _) | (refine Below.drew ?_) | (refine below_drewN ?_ _) | (refine Below.trans ?_ (Below.mono ‹Below _ _ _› ?_)) | omega | (simp; done) | (simp; omega) | (simp at *; omega)))⟩
            · have t4 : decide (pk < (1 : Int)) = false := decide_eq_false g3
              by_cases g4 : 1125899906842624 < pk
              · have t5 : decide ((1125899906842624 : Int) < pk) = true := decide_eq_true g4
                obtain rfl : rb = false := HBAD.out (by unfold evR; omega)
                clear ha0 g0 g1 g2 g3 g4
                go_wp2_with fail
                go_ret
                exact ⟨rfl, by have := HW.out; (repeat' (first | assumption | exact Below.refl _ _ | exact Below.size (by assumption) | (refine Below.setCell ?_ ?_ _) | (refine Below.alloc ?_ ?_ _) | (refine Below.drew ?_) | (refine below_drewN ?_ _) | (refine Below.trans ?_ (Below.mono ‹Below _ _ _› ?_)) | omega | (simp; done) | (simp; omega) | (simp at *; omega)))⟩
              · have t5 : decide ((1125899906842624 : Int) < pk) = false := decide_eq_false g4
                by_cases g5 : tt < pk
                · have t6 : decide (tt < pk) = true := decide_eq_true g5
                  obtain rfl : rb = false := HBAD.out (by unfold evR; omega)
                  clear ha0 g0 g1 g2 g3 g4 g5
                  go_wp2_with fail
                  go_ret
                  exact ⟨rfl, by have := HW.out; (repeat' (first | assumption | exact Below.refl _ _ | exact Below.size (by assumption) | (refine Below.setCell ?_ ?_ _) | (refine Below.alloc ?_ ?_ _) | (refine Below.drew ?_) | (refine below_drewN ?_ _) | (refine Below.trans ?_ (Below.mono ‹Below _ _ _› ?_)) | omega | (simp; done) | (simp; omega) | (simp at *; omega)))⟩
                · have t6 : decide (tt < pk) = false := decide_eq_false g5
                  by_cases g6 : 1152921504606846976 < tt
                  · have t7 : decide ((1152921504606846976 : Int) < tt) = true := decide_eq_true g6
                    obtain rfl : rb = false := HBAD.out (by unfold evR; omega)
                    clear ha0 g0 g1 g2 g3 g4 g5 g6
                    go_wp2_with fail
                    go_ret
                    exact ⟨rfl, by have := HW.out; (repeat' (first | assumption | exact Below.refl _ _ | exact Below.size (by assumption) | (refine Below.setCell ?_ ?_ _) | (refine Below.alloc ?_ ?_ _) | (refine Below.drew ?_) | (refine below_drewN ?_ _) | (refine Below.trans ?_ (Below.mono ‹Below _ _ _› ?_)) | omega | (simp; done) | (simp; omega) | (simp at *; omega)))⟩
                  · have t7 : decide ((1152921504606846976 : Int) < tt) = false := decide_eq_false g6
                    obtain ⟨d, hd⟩ : ∃ z, z = t - f := ⟨_, rfl⟩
                    obtain ⟨q, hq⟩ : ∃ z, z = tt / pk := ⟨_, rfl⟩
                    obtain ⟨r, hr⟩ : ∃ z, z = tt % pk := ⟨_, rfl⟩
                    have hpd := peak_div (tot := tt) (pk := pk) (d := d) (by omega) (by omega) q r hq.symm hr.symm
                    have r0 : 0 ≤ r := by rw [hr]; exact Int.emod_nonneg tt (by omega)
                    have q0 : 0 ≤ q := by rw [hq]; exact Int.ediv_nonneg (by omega) (by omega)
                    have q1 : q ≤ tt := by rw [hq]; exact Int.ediv_le_self pk (by omega)
                    have y1 : Int.tdiv tt pk = q := by rw [hq]; exact Int.tdiv_eq_ediv_of_nonneg (by omega)
                    have y2 : IntKind.i64.wrap q = q := by rw [IntKind.wrap_i64]; omega
                    have y3 : Int.tmod tt pk = r := by rw [hr]; exact Int.tmod_eq_emod_of_nonneg (by omega)
                    have y4 : IntKind.i64.wrap (t - f) = d := by rw [IntKind.wrap_i64, hd]; omega
                    have y5 : ¬ pk = 0 := by omega
                    have y6 : decide (pk = 0) = false := decide_eq_false y5
                    have y7 : IntKind.i64.wrap r = r := by rw [IntKind.wrap_i64]; have := Int.emod_lt_of_pos tt (show 0 < pk by omega); omega
                    clear hq hr
                    by_cases z1 : d < q
                    · have v1 : decide (d < q) = true := decide_eq_true z1
                      obtain rfl : rb = false := HBAD.out (by unfold evR; intro h; rw [← hd] at h; exact hpd.1 (.inl z1) h.2.2.2.2.2.2.2)
                      clear ha0 g0 g1 g2 g3 g4 g5 g6 hpd r0 q0 q1 z1 hd
                      go_wp2_with fail
                      go_quiet (fail)
                      go_wp2_with fail
                      go_ret
                      exact ⟨rfl, by have := HW.out; (repeat' (first | assumption | exact Below.refl _ _ | exact Below.size (by assumption) | (refine Below.setCell ?_ ?_ _) | (refine Below.alloc ?_ ?_ _) | (refine Below.drew ?_) | (refine below_drewN ?_ _) | (refine Below.trans ?_ (Below.mono ‹Below _ _ _› ?_)) | omega | (simp; done) | (simp; omega) | (simp at *; omega)))⟩
                    · have v1 : decide (d < q) = false := decide_eq_false z1
                      by_cases z2 : q = d
                      · obtain rfl : q = d := z2
                        by_cases z3 : 0 < r
                        · have v3 : decide (0 < r) = true := decide_eq_true z3
                          obtain rfl : rb = false := HBAD.out (by unfold evR; intro h; rw [← hd] at h; exact hpd.1 (.inr ⟨rfl, z3⟩) h.2.2.2.2.2.2.2)
                          clear ha0 g0 g1 g2 g3 g4 g5 g6 hpd r0 q0 q1 z1 z3 hd
                          go_wp2_with fail
                          go_quiet (fail)
                          go_wp2_with fail
                          go_ret
                          exact ⟨rfl, by have := HW.out; (repeat' (first | assumption | exact Below.refl _ _ | exact Below.size (by assumption) | (refine Below.setCell ?_ ?_ _) | (refine Below.alloc ?_ ?_ _) | (refine Below.drew ?_) | (refine below_drewN ?_ _) | (refine Below.trans ?_ (Below.mono ‹Below _ _ _› ?_)) | omega | (simp; done) | (simp; omega) | (simp at *; omega)))⟩
                        · have v3 : decide (0 < r) = false := decide_eq_false z3
                          have hz : tt ≤ pk * q := Classical.byContradiction fun h => Or.elim (hpd.2 h) (fun h => z1 h) (fun h => z3 h.2)
                          have HG2 : Hid (∀ j, j < i' → evRight E j) := HGOOD.out (by unfold evR; rw [← hd]; refine ⟨?_, ?_, ?_, ?_, ?_, ?_, ?_, hz⟩ <;> omega)
                          clear hz
                          clear ha0 g0 g1 g2 g3 g4 g5 g6 hpd r0 q0 q1 z1 z3 hd
                          go_wp2_with fail
                          go_quiet (fail)
                          go_wp2_with fail
                          go_roundw
                          case rel => exact ⟨i', HI', HG2, HU.out, rfl, by have := HW.out; (repeat' (first | assumption | exact Below.refl _ _ | exact Below.size (by assumption) | (refine Below.setCell ?_ ?_ _) | (refine Below.alloc ?_ ?_ _) | (refine Below.drew ?_) | (refine below_drewN ?_ _) | (refine Below.trans ?_ (Below.mono ‹Below _ _ _› ?_)) | omega | (simp; done) | (simp; omega) | (simp at *; omega)))⟩
                          case measure => exact HMS.out
                      · have v2 : decide (q = d) = false := decide_eq_false z2
                        have hz : tt ≤ pk * d := Classical.byContradiction fun h => Or.elim (hpd.2 h) (fun h => z1 h) (fun h => z2 h.1)
                        have HG2 : Hid (∀ j, j < i' → evRight E j) := HGOOD.out (by unfold evR; rw [← hd]; refine ⟨?_, ?_, ?_, ?_, ?_, ?_, ?_, hz⟩ <;> omega)
                        clear hz
                        clear ha0 g0 g1 g2 g3 g4 g5 g6 hpd r0 q0 q1 z1 hd
                        go_wp2_with fail
                        go_quiet (fail)
                        go_wp2_with fail
                        go_roundw
                        case rel => exact ⟨i', HI', HG2, HU.out, rfl, by have := HW.out; (repeat' (first | assumption | exact Below.refl _ _ | exact Below.size (by assumption) | (refine Below.setCell ?_ ?_ _) | (refine Below.alloc ?_ ?_ _) | (refine Below.drew ?_) | (refine below_drewN ?_ _) | (refine Below.trans ?_ (Below.mono ‹Below _ _ _› ?_)) | omega | (simp; done) | (simp; omega) | (simp at *; omega)))⟩
                        case measure => exact HMS.out
    · have hin : i = n := by have := Hi.out; omega
      have T0 : decide ((i : Int) < (n : Int)) = false := by simp <;> omega
      have T0' : decide (i < n) = false := decide_eq_false hlt
      obtain rfl : rb = true := HR.out.2 ⟨by have := H40.out; omega, by rw [← hin]; exact HG.out⟩
      clear hlt hin
      go_wp2_with fail
      go_ret
      exact ⟨rfl, by have := HW.out; (repeat' (first | assumption | exact Below.refl _ _ | exact Below.size (by assumption) | (refine Below.setCell ?_ ?_ _) | (refine Below.alloc ?_ ?_ _) | (refine Below.drew ?_) | (refine below_drewN ?_ _) | (refine Below.trans ?_ (Below.mono ‹Below _ _ _› ?_)) | omega | (simp; done) | (simp; omega) | (simp at *; omega)))⟩
end Go.Proofs.YtigocjhmgmhocaaGreatDoor

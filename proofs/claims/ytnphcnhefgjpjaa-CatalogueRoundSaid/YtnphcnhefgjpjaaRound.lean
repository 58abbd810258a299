/- The law CatalogueRound, walked: whatever the numbers, it returns true. -/
import Derived.Test.YtnphcnhefgjpjaaRndL
namespace Go.Proofs.Ytnphcnhefgjpjaa
open Go.RowKit
set_option linter.unusedVariables false
set_option linter.unusedSimpArgs false

/-- What Circle leaves. -/
def RcPost (w : World) (nm : ByteArray) (S P Q : Nat) (e : Ending) (w' : World) : Prop := ∃ ga capA gc capC : Nat,
  e = .returned (.tuple #[.agg #[.string nm, .int .i64 (S : Int), .int .i64 1, .slice (some ⟨ga, 0, none⟩) Q capA, .slice (some ⟨gc, 0, none⟩) Q capC], .int .i64 0]) ∧
  TabAt w' ga 0 Q (fun k => ((Circ.cd S P k : Nat) : Int)) (fun k => ((Circ.ca S P k : Nat) : Int)) ∧ TabAt w' gc 0 Q (fun k => ((Circ.cd S P k : Nat) : Int)) (fun k => ((Circ.ck S P k : Nat) : Int)) ∧ Below w.heap.size w w'
theorem rc_of {w : World} {nm : ByteArray} {S P Q : Nat} (hQ : P + 1 = Q) {e : Ending} {w' : World} (h : CircPost w nm S P 1 e w') : RcPost w nm S P Q e w' := by
  subst hQ
  obtain ⟨ga, capA, gc, capC, rfl, _, _, h1, h2, h3⟩ := h
  exact ⟨ga, capA, gc, capC, rfl, h1, h2, h3⟩
theorem below_step {w wr w' : World} (h : Below w.heap.size w wr) (hb : Below wr.heap.size wr w') : Below w.heap.size w w' := h.trans (hb.mono h.size)
theorem Blk.call3 {w w' : World} {g : Nat} {t : TypeId} {cs : Array Value} (h : Blk w g t cs) (hb : Below w.heap.size w w') : Blk w' g t cs := h.below hb h.lt
theorem blk5s {w : World} {g : Nat} {t : TypeId} {a b c d e : Value} (h : Blk w g t #[a, b, c, d, e]) : w.cell? ⟨g, 0, none⟩ = some a ∧ w.cell? ⟨g, 1, none⟩ = some b ∧ w.cell? ⟨g, 2, none⟩ = some c ∧ w.cell? ⟨g, 3, none⟩ = some d ∧ w.cell? ⟨g, 4, none⟩ = some e := ⟨h.cell 0, h.cell 1, h.cell 2, h.cell 3, h.cell 4⟩
theorem tab_in {w : World} {g n : Nat} {X Y : Nat → Int} (h : TabAt w g 0 n X Y) (hn : n ≤ 100) : TabIn w (some ⟨g, 0, none⟩) n X Y := ⟨by omega, .inr ⟨g, 0, rfl, h⟩⟩
set_option maxRecDepth 100000 in
set_option maxHeartbeats 8000000 in
theorem round_main (S P M F L : Nat) (w : World) (h1 : 40 ≤ S) (h2 : S ≤ 4000) (h3 : 2 ≤ P) (h4 : P ≤ 40) (hs : slopeB (F : Int) (L : Int) = true) (hL : 1 ≤ L) (hM : M ≤ 65535) :
    Calls Try.prog 3 #[.int .i64 (S : Int), .int .i64 (P : Int), .int .u16 (M : Int), .int .i64 (F : Int), .int .i64 (L : Int)] w fun e w' => e = .returned (.bool true) ∧ Below w.heap.size w w' := by
  obtain ⟨R, hR⟩ : ∃ R, M % 1000 = R := ⟨_, rfl⟩
  obtain ⟨T, hT⟩ : ∃ T, S + R = T := ⟨_, rfl⟩
  obtain ⟨Q, hQ⟩ : ∃ Q, P + 1 = Q := ⟨_, rfl⟩
  have hRb : R < 1000 := by rw [← hR]; exact Nat.mod_lt _ (by omega)
  have ok1 := circ_ok (nm := (⟨#[99]⟩ : ByteArray).data.toList) (S := S) (P := P) (pr := 1) (by decide) h3 (by omega) (by omega) (by omega) (by omega)
  have ok2 := circ_ok (nm := (⟨#[100]⟩ : ByteArray).data.toList) (S := T) (P := P) (pr := 1) (by decide) h3 (by omega) (by omega) (by omega) (by omega)
  obtain ⟨f1, f2, f3, f4⟩ := Circ.round_facts h3 h4 h1 h2
  have cv1 := ck_val (S := S) (P := P) h3 (by omega)
  have cv2 := ck_val (S := T) (P := P) h3 (by omega)
  rw [hQ] at ok1 ok2 cv1 cv2
  rw [show ((1 : Nat) : Int) = 1 from rfl] at ok1 ok2
  obtain ⟨v1, hv1⟩ : ∃ v, capN (Circ.ck S P P) F L = v := ⟨_, rfl⟩
  obtain ⟨v2, hv2⟩ : ∃ v, capN (Circ.ck T P P) F L = v := ⟨_, rfl⟩
  have hmore : ¬ R < 2 * P → v1 ≤ v2 := fun h => by rw [← hv1, ← hv2]; exact cap_more h3 h4 h1 h2 (by omega) (by omega) hL
  have S0 := Lib.hid fun w => cawake w
  have SLP : Hid (∀ w, Calls Try.prog 5 #[.int .i64 (F : Int), .int .i64 (L : Int)] w fun e w' => e = .returned (.bool true) ∧ w = w') := fun w => by have h := rslope (F : Int) (L : Int) w; rw [hs] at h; exact h
  have S1 : Hid (∀ w, Calls Try.prog 6 #[.string ⟨#[99]⟩, .int .i64 (S : Int), .int .i64 1, .int .i64 (P : Int)] w (RcPost w ⟨#[99]⟩ S P Q)) := fun w => (ccircle ⟨#[99]⟩ S P 1 w (by decide) (by decide) h3 (by omega) (by omega) (by omega) (by omega)).mono fun _ _ h => rc_of hQ h
  have S2 : Hid (∀ w, Calls Try.prog 6 #[.string ⟨#[100]⟩, .int .i64 (T : Int), .int .i64 1, .int .i64 (P : Int)] w (RcPost w ⟨#[100]⟩ T P Q)) := fun w => (ccircle ⟨#[100]⟩ T P 1 w (by decide) (by decide) h3 (by omega) (by omega) (by omega) (by omega)).mono fun _ _ h => rc_of hQ h
  have R1 : Hid (∀ ga gc ca cc w, TabAt w ga 0 Q (fun k => ((Circ.cd S P k : Nat) : Int)) (fun k => ((Circ.ca S P k : Nat) : Int)) → TabAt w gc 0 Q (fun k => ((Circ.cd S P k : Nat) : Int)) (fun k => ((Circ.ck S P k : Nat) : Int)) →
      Calls Try.prog 7 #[.agg #[.string ⟨#[99]⟩, .int .i64 (S : Int), .int .i64 1, .slice (some ⟨ga, 0, none⟩) Q ca, .slice (some ⟨gc, 0, none⟩) Q cc]] w fun e w' => e = .returned (.bool true) ∧ Below w.heap.size w w') := fun ga gc ca cc w hA hC => by
    have h := rright ⟨#[99]⟩ (S : Int) 1 (some ⟨ga, 0, none⟩) (some ⟨gc, 0, none⟩) Q ca Q cc _ _ _ _ w (by decide) (tab_in hA (by omega)) (tab_in hC (by omega))
    rw [boolOf_true ok1] at h
    exact h
  have R2 : Hid (∀ ga gc ca cc w, TabAt w ga 0 Q (fun k => ((Circ.cd T P k : Nat) : Int)) (fun k => ((Circ.ca T P k : Nat) : Int)) → TabAt w gc 0 Q (fun k => ((Circ.cd T P k : Nat) : Int)) (fun k => ((Circ.ck T P k : Nat) : Int)) →
      Calls Try.prog 7 #[.agg #[.string ⟨#[100]⟩, .int .i64 (T : Int), .int .i64 1, .slice (some ⟨ga, 0, none⟩) Q ca, .slice (some ⟨gc, 0, none⟩) Q cc]] w fun e w' => e = .returned (.bool true) ∧ Below w.heap.size w w') := fun ga gc ca cc w hA hC => by
    have h := rright ⟨#[100]⟩ (T : Int) 1 (some ⟨ga, 0, none⟩) (some ⟨gc, 0, none⟩) Q ca Q cc _ _ _ _ w (by decide) (tab_in hA (by omega)) (tab_in hC (by omega))
    rw [boolOf_true ok2] at h
    exact h
  have F1 : Hid (∀ ga gc ca cc w, TabAt w ga 0 Q (fun k => ((Circ.cd S P k : Nat) : Int)) (fun k => ((Circ.ca S P k : Nat) : Int)) → TabAt w gc 0 Q (fun k => ((Circ.cd S P k : Nat) : Int)) (fun k => ((Circ.ck S P k : Nat) : Int)) →
      Calls Try.prog 8 #[.agg #[.string ⟨#[99]⟩, .int .i64 (S : Int), .int .i64 1, .slice (some ⟨ga, 0, none⟩) Q ca, .slice (some ⟨gc, 0, none⟩) Q cc], .int .i64 (F : Int), .int .i64 (L : Int)] w fun e w' => e = .returned (.tuple #[.int .i64 (capQ v1), .int .i64 (capE v1)]) ∧ Below w.heap.size w w') := fun ga gc ca cc w hA hC =>
    cfull ⟨#[99]⟩ (S : Int) 1 (some ⟨ga, 0, none⟩) (some ⟨gc, 0, none⟩) Q ca Q cc _ _ _ _ F L (capQ v1) (capE v1) w (by decide) (tab_in hA (by omega)) (tab_in hC (by omega)) (by
      rw [cv1]
      simp only [Int.toNat_natCast]
      rw [hv1]
      exact capIs_ok ok1 (by omega) (Int.le_refl _) hs)
  have F2 : Hid (∀ ga gc ca cc w, TabAt w ga 0 Q (fun k => ((Circ.cd T P k : Nat) : Int)) (fun k => ((Circ.ca T P k : Nat) : Int)) → TabAt w gc 0 Q (fun k => ((Circ.cd T P k : Nat) : Int)) (fun k => ((Circ.ck T P k : Nat) : Int)) →
      Calls Try.prog 8 #[.agg #[.string ⟨#[100]⟩, .int .i64 (T : Int), .int .i64 1, .slice (some ⟨ga, 0, none⟩) Q ca, .slice (some ⟨gc, 0, none⟩) Q cc], .int .i64 (F : Int), .int .i64 (L : Int)] w fun e w' => e = .returned (.tuple #[.int .i64 (capQ v2), .int .i64 (capE v2)]) ∧ Below w.heap.size w w') := fun ga gc ca cc w hA hC =>
    cfull ⟨#[100]⟩ (T : Int) 1 (some ⟨ga, 0, none⟩) (some ⟨gc, 0, none⟩) Q ca Q cc _ _ _ _ F L (capQ v2) (capE v2) w (by decide) (tab_in hA (by omega)) (tab_in hC (by omega)) (by
      rw [cv2]
      simp only [Int.toNat_natCast]
      rw [hv2]
      exact capIs_ok ok2 (by omega) (Int.le_refl _) hs)
  have hcaB := (Circ.ca_bound h3 (by omega : P ≤ S) (by omega) (Nat.le_refl P)).1
  have HCA : Hid (∀ i, i + 1 ≤ P → Circ.ca S P i ≤ Circ.ca S P (i + 1)) := fun i _ => by show Circ.ca S P i ≤ Circ.ca S P i + _; omega
  have HCK : Hid (∀ i, i + 1 ≤ P → Circ.ck S P i ≤ Circ.ck S P (i + 1)) := fun i _ => by show Circ.ck S P i ≤ max (Circ.ck S P i) _; omega
  obtain ⟨a, ha⟩ : ∃ a, Circ.ca S P P = a := ⟨_, rfl⟩
  have HA := Lib.hid ha
  rw [ha] at f1 f2 f3 hcaB
  -- the numbers of the law
  have q1 : decide ((S : Int) < 40) = false := by simp <;> omega
  have q1' : decide (S < 40) = false := decide_eq_false (by omega)
  have q2 : decide ((4000 : Int) < (S : Int)) = false := by simp <;> omega
  have q2' : decide (4000 < S) = false := decide_eq_false (by omega)
  have q3 : decide ((P : Int) < 2) = false := by simp <;> omega
  have q3' : decide (P < 2) = false := decide_eq_false (by omega)
  have q4 : decide ((40 : Int) < (P : Int)) = false := by simp <;> omega
  have q4' : decide (40 < P) = false := decide_eq_false (by omega)
  have x1 : IntKind.i64.wrap (M : Int) = (M : Int) := by rw [IntKind.wrap_i64]; omega
  have x2 : (M : Int) % 1000 = (R : Int) := by omega
  have x2' : Int.tmod (M : Int) 1000 = (R : Int) := by rw [Int.tmod_eq_emod_of_nonneg (by omega)]; omega
  have x3 : IntKind.i64.wrap (R : Int) = (R : Int) := by rw [IntKind.wrap_i64]; omega
  have x4 : IntKind.i64.wrap ((S : Int) + (R : Int)) = (T : Int) := by rw [IntKind.wrap_i64]; omega
  have x5 : IntKind.i64.wrap ((P : Int) + 1) = (Q : Int) := by rw [IntKind.wrap_i64]; omega
  have x6 : ((Q : Int) != (Q : Int)) = false := by simp
  have k0 : (0 : Int) ≤ (P : Int) := by omega
  have k1 : (P : Int) < (Q : Int) := by omega
  obtain ⟨A14, hA14⟩ : ∃ z, 14 * a = z := ⟨_, rfl⟩
  obtain ⟨S11, hS11⟩ : ∃ z, 11 * S = z := ⟨_, rfl⟩
  have hSS : S * S ≤ 4000 * 4000 := Nat.mul_le_mul h2 h2
  obtain ⟨SS, hSSe⟩ : ∃ z, S * S = z := ⟨_, rfl⟩
  have e11 : S11 * S = 11 * SS := by rw [← hS11, ← hSSe, Nat.mul_assoc]
  obtain ⟨U11, hU11⟩ : ∃ z, 11 * SS = z := ⟨_, rfl⟩
  rw [hSSe] at f1 f2 hSS
  have x7 : IntKind.i64.wrap ((a : Int) * 14) = (A14 : Int) := by rw [IntKind.wrap_i64]; omega
  have x8 : IntKind.i64.wrap (11 * (S : Int)) = (S11 : Int) := by rw [IntKind.wrap_i64]; omega
  have x9 : IntKind.i64.wrap ((S11 : Int) * (S : Int)) = (U11 : Int) := by
    have e : (S11 : Int) * (S : Int) = ((S11 * S : Nat) : Int) := (Int.natCast_mul _ _).symm
    rw [e, e11, hU11, IntKind.wrap_i64]; omega
  have t1 : decide ((U11 : Int) < (A14 : Int)) = false := by simp <;> omega
  have t1' : decide (U11 < A14) = false := decide_eq_false (by omega)
  obtain ⟨A10, hA10⟩ : ∃ z, 10 * a = z := ⟨_, rfl⟩
  obtain ⟨S7, hS7⟩ : ∃ z, 7 * S = z := ⟨_, rfl⟩
  obtain ⟨U7, hU7⟩ : ∃ z, 7 * SS = z := ⟨_, rfl⟩
  have e7 : S7 * S = 7 * SS := by rw [← hS7, ← hSSe, Nat.mul_assoc]
  obtain ⟨P10, hP10⟩ : ∃ z, 10 * P = z := ⟨_, rfl⟩
  have hPS : P * S ≤ 40 * 4000 := Nat.mul_le_mul h4 h2
  obtain ⟨PS, hPSe⟩ : ∃ z, P * S = z := ⟨_, rfl⟩
  rw [hPSe] at f2 hPS
  have eP : P10 * S = 10 * PS := by rw [← hP10, ← hPSe, Nat.mul_assoc]
  obtain ⟨V10, hV10⟩ : ∃ z, 10 * PS = z := ⟨_, rfl⟩
  obtain ⟨D, hD⟩ : ∃ z : Int, (U7 : Int) - (V10 : Int) = z := ⟨_, rfl⟩
  have x10 : IntKind.i64.wrap ((a : Int) * 10) = (A10 : Int) := by rw [IntKind.wrap_i64]; omega
  have x11 : IntKind.i64.wrap (7 * (S : Int)) = (S7 : Int) := by rw [IntKind.wrap_i64]; omega
  have x12 : IntKind.i64.wrap ((S7 : Int) * (S : Int)) = (U7 : Int) := by
    have e : (S7 : Int) * (S : Int) = ((S7 * S : Nat) : Int) := (Int.natCast_mul _ _).symm
    rw [e, e7, hU7, IntKind.wrap_i64]; omega
  have x13 : IntKind.i64.wrap (10 * (P : Int)) = (P10 : Int) := by rw [IntKind.wrap_i64]; omega
  have x14 : IntKind.i64.wrap ((P10 : Int) * (S : Int)) = (V10 : Int) := by
    have e : (P10 : Int) * (S : Int) = ((P10 * S : Nat) : Int) := (Int.natCast_mul _ _).symm
    rw [e, eP, hV10, IntKind.wrap_i64]; omega
  have x15 : IntKind.i64.wrap ((U7 : Int) - (V10 : Int)) = D := by rw [IntKind.wrap_i64]; omega
  have t2 : 8 ≤ P → decide ((A10 : Int) < D) = false := fun h => decide_eq_false (by rcases f2 with g | g <;> omega)
  obtain ⟨P2, hP2⟩ : ∃ z, 2 * P = z := ⟨_, rfl⟩
  have x16 : IntKind.i64.wrap (2 * (P : Int)) = (P2 : Int) := by rw [IntKind.wrap_i64]; omega
  have HNUM : Hid (40 ≤ S ∧ S ≤ 4000 ∧ 2 ≤ P ∧ P ≤ 40 ∧ P + 1 = Q ∧ 2 * P = P2 ∧ a ≤ 1073741824) := ⟨h1, h2, h3, h4, hQ, hP2, hcaB⟩
  have HF3 := Lib.hid f3
  have HT2 := Lib.hid t2
  have HMORE := Lib.hid hmore
  clear hv1 hv2 hs ok1 ok2 f1 f2 f3 f4 cv1 cv2 hmore h1 h2 h3 h4 hR hT hRb hQ ha hA14 hS11 hSS hSSe e11 hU11 hA10 hS7 hU7 e7 hP10 hPS hPSe eP hV10 hD hP2 hcaB t2 hM
  obtain ⟨b8, hb8⟩ : ∃ b, decide ((8 : Int) ≤ (P : Int)) = b := ⟨_, rfl⟩
  have hb8' : decide (8 ≤ P) = b8 := by rw [← hb8]; exact decide_eq_decide.2 (by omega)
  obtain ⟨b2, hb2⟩ : ∃ b, ((P : Int) % 2 == 0) = b := ⟨_, rfl⟩
  obtain ⟨p2, hp2⟩ : ∃ p, P % 2 = p := ⟨_, rfl⟩
  obtain ⟨h, hh⟩ : ∃ h, P / 2 = h := ⟨_, rfl⟩
  obtain ⟨sp, hsp⟩ : ∃ z, S % P = z := ⟨_, rfl⟩
  have y1 : (P : Int) % 2 = (p2 : Int) := by omega
  have y1' : Int.tmod (P : Int) 2 = (p2 : Int) := by rw [Int.tmod_eq_emod_of_nonneg (by omega)]; omega
  have y2 : IntKind.i64.wrap (p2 : Int) = (p2 : Int) := by rw [IntKind.wrap_i64]; omega
  have y3 : (P : Int) / 2 = (h : Int) := by omega
  have y3' : Int.tdiv (P : Int) 2 = (h : Int) := by rw [Int.tdiv_eq_ediv_of_nonneg (by omega)]; omega
  have y4 : IntKind.i64.wrap (h : Int) = (h : Int) := by have := HNUM.out; rw [IntKind.wrap_i64]; omega
  have y5 : Int.tmod (S : Int) (P : Int) = (sp : Int) := by rw [← hsp]; exact (Int.ofNat_tmod S P).symm
  have hspl : sp < P := by rw [← hsp]; exact Nat.mod_lt _ (by have := HNUM.out; omega)
  have y6 : IntKind.i64.wrap (sp : Int) = (sp : Int) := by have := HNUM.out; rw [IntKind.wrap_i64]; omega
  have y7 : ¬ (P : Int) = 0 := by have := HNUM.out; omega
  have y7' : ((P : Int) == 0) = false := by simp; omega
  have y7'' : ¬ P = 0 := by have := HNUM.out; omega
  have k2 : (0 : Int) ≤ (h : Int) := by omega
  have k3 : (h : Int) < (Q : Int) := by have := HNUM.out; omega
  obtain ⟨N1, hN1⟩ : ∃ z : Int, -(P : Int) = z := ⟨_, rfl⟩
  have y8 : IntKind.i64.wrap (-(P : Int)) = N1 := by have := HNUM.out; rw [IntKind.wrap_i64]; omega
  have y9 : decide ((0 : Int) < N1) = false := decide_eq_false (by omega)
  have y10 : decide ((P : Int) < 0) = false := decide_eq_false (by omega)
  have y11 : ((p2 : Int) == 0) = decide (p2 = 0) := by rw [Bool.eq_iff_iff]; simp
  have y12 : ((sp : Int) == 0) = decide (sp = 0) := by rw [Bool.eq_iff_iff]; simp
  have HHALF : Hid (p2 = 0 → sp = 0 → a = 2 * Circ.ca S P h) := fun e1 e2 => by rw [← hh]; exact HF3.out (hp2.trans e1) (hsp.trans e2)
  have HHP : Hid (h < Q) := by show _ < _; have := HNUM.out; omega
  have HT8 : Hid (b8 = true → decide ((A10 : Int) < D) = false) := fun e => HT2.out (of_decide_eq_true (by rw [hb8']; exact e))
  clear hb2 hp2 hh hsp hspl hN1 HF3 HT2
  go_enter Try.func3, Try.ntmps3
  go_upto_region 9 with (first
    | (go_at_call 4
       with_reducible refine (S0.out _).mono ?_
       rintro e w0 ⟨rfl, hb0⟩
       have HB0 := Lib.hid hb0
       clear hb0)
    | (go_at_call 5
       with_reducible refine (SLP.out _).mono ?_
       rintro e w' ⟨rfl, rfl⟩)
    | (go_at_call 6
       fail_if_success (clear hq1)
       refine (S1.out _).mono ?_
       rintro e w1 ⟨ga, capA, gc, capC, rfl, h1, h2, h3⟩
       have HA1 := Lib.hid h1
       have HC1 := Lib.hid h2
       have HB1 := Lib.hid (below_step HB0.out h3)
       have hq1 := h1.1
       clear h1 h2 h3)
    | (go_at_call 6
       refine (S2.out _).mono ?_
       rintro e w2 ⟨gb, capB, gd, capD, rfl, h1, h2, h3⟩
       have hal := below_step ((Below.refl _ w1).alloc (Nat.le_refl _) (.cells #[.string ⟨#[99]⟩, .int .i64 (S : Int), .int .i64 1, .slice (some ⟨ga, 0, none⟩) Q capA, .slice (some ⟨gc, 0, none⟩) Q capC] 28)) h3
       have HA2 := Lib.hid (HA1.out.call hal)
       have HC2 := Lib.hid (HC1.out.call hal)
       have HX2 : Hid (Blk w2 w1.heap.size 28 #[.string ⟨#[99]⟩, .int .i64 (S : Int), .int .i64 1, .slice (some ⟨ga, 0, none⟩) Q capA, .slice (some ⟨gc, 0, none⟩) Q capC]) := (Blk.new _ _ _).call3 h3
       have HD2 := Lib.hid h1
       have HE2 := Lib.hid h2
       have HB2 := Lib.hid (below_step HB1.out hal)
       have hal2 := (Below.refl _ w2).alloc (Nat.le_refl _) (.cells #[.string ⟨#[100]⟩, .int .i64 (T : Int), .int .i64 1, .slice (some ⟨gb, 0, none⟩) Q capB, .slice (some ⟨gd, 0, none⟩) Q capD] 28)
       have HAL2 := Lib.hid hal2
       obtain ⟨c0, c1, c2', c3, c4⟩ := blk5s (HX2.out.call3 hal2)
       obtain ⟨d0, d1, d2, d3, d4⟩ := blk5s (Blk.new w2 28 #[.string ⟨#[100]⟩, .int .i64 (T : Int), .int .i64 1, .slice (some ⟨gb, 0, none⟩) Q capB, .slice (some ⟨gd, 0, none⟩) Q capD])
       clear h1 h2 h3 hal hal2)
    | (go_at_call 7
       fail_if_success (clear hq3)
       refine (R1.out _ _ _ _ _ (HA2.out.call HAL2.out) (HC2.out.call HAL2.out)).mono ?_
       rintro e w3 ⟨rfl, h3⟩
       have HBE := Lib.hid (below_step HAL2.out h3)
       have hq3 : w2.heap.size ≤ w3.heap.size := HBE.out.size
       obtain ⟨c0, c1, c2', c3, c4⟩ := blk5s (HX2.out.call3 HBE.out)
       have HYE : Hid (Blk w3 w2.heap.size 28 #[.string ⟨#[100]⟩, .int .i64 (T : Int), .int .i64 1, .slice (some ⟨gb, 0, none⟩) Q capB, .slice (some ⟨gd, 0, none⟩) Q capD]) := (Blk.new w2 28 #[.string ⟨#[100]⟩, .int .i64 (T : Int), .int .i64 1, .slice (some ⟨gb, 0, none⟩) Q capB, .slice (some ⟨gd, 0, none⟩) Q capD]).call3 h3
       obtain ⟨d0, d1, d2, d3, d4⟩ := blk5s HYE.out
       clear h3)
    | (go_at_call 7
       refine (R2.out _ _ _ _ _ (HD2.out.call HBE.out) (HE2.out.call HBE.out)).mono ?_
       rintro e w4 ⟨rfl, h3⟩
       have HBF := Lib.hid (below_step HBE.out h3)
       obtain ⟨c0, c1, c2', c3, c4⟩ := blk5s (HX2.out.call3 HBF.out)
       have HYF := Lib.hid (HYE.out.call3 h3)
       clear h3))
  have HAF := Lib.hid (HA2.out.call HBF.out)
  have HCF := Lib.hid (HC2.out.call HBF.out)
  have HDF := Lib.hid (HD2.out.call HBF.out)
  have HEF := Lib.hid (HE2.out.call HBF.out)
  have HBW := Lib.hid (below_step HB2.out HBF.out)
  have HXF := Lib.hid (HX2.out.call3 HBF.out)
  clear HA1 HC1 HA2 HC2 HD2 HE2 HX2 HB0 HB1 HB2 HAL2 HBE HYE HBF hq1 hq3 c0 c1 c2' c3 c4 d0 d1 d2 d3 d4 S0 S1 S2 R1 R2 SLP q1 q1' q2 q2' q3 q3' q4 q4' x4 x5 x6
  generalize w1.heap.size = gx at HXF ⊢
  generalize w2.heap.size = gy at HYF ⊢
  obtain ⟨c0, c1, c2', c3, c4⟩ := blk5s HXF.out
  obtain ⟨u0, u1⟩ := HAF.out.2 P (by have := HNUM.out; omega)
  simp only [Nat.zero_add] at u0 u1
  rw [HA.out] at u1
  go_upto_region 10 with fail
  clear u0 u1
  obtain ⟨u0, u1⟩ := HAF.out.2 h HHP.out
  simp only [Nat.zero_add] at u0 u1
  obtain ⟨hf, hhf⟩ : ∃ z, Circ.ca S P h = z := ⟨_, rfl⟩
  rw [hhf] at u1 HHALF
  obtain ⟨e2, he2⟩ : ∃ b, ((p2 : Int) == 0) = b := ⟨_, rfl⟩
  obtain ⟨es, hes⟩ : ∃ b, ((sp : Int) == 0) = b := ⟨_, rfl⟩
  have HH : Hid (e2 = true → es = true → IntKind.i64.wrap (2 * (hf : Int)) = (a : Int)) := fun z1 z2 => by
    have h1 := HHALF.out (by simpa using he2.trans z1) (by simpa using hes.trans z2)
    have := HNUM.out
    rw [IntKind.wrap_i64]; omega
  have y13 : IntKind.i64.wrap ((a : Int) - (a : Int)) = 0 := by rw [Int.sub_self]; rfl
  clear y11 y12 hhf HHALF
  have HT8' := HT8.out
  have HH' := HH.out
  clear HT8 HH
  cases b8 <;> cases e2 <;> cases es
  all_goals
    as_aux_lemma =>
      simp only [forall_const, Bool.false_eq_true, false_implies, true_implies] at HT8' HH'
      go_wp2_with fail
      go_loopw [18] (fun x wr => ∃ i : Nat, x = .int .i64 i ∧ Hid (1 ≤ i ∧ i ≤ Q) ∧ Hid (Below w4.heap.size w4 wr)) (fun x _ => Q - (RowKit.intOf x).toNat)
      case atStart => exact ⟨1, rfl, ⟨Nat.le_refl _, by have := HNUM.out; omega⟩, Below.refl _ _⟩
      case round =>
        as_aux_lemma =>
          clear u0 u1 c0 c1 c2' c3 c4
          obtain ⟨i, rfl, Hi, HW⟩ := hrel
          obtain ⟨c0, c1, c2', c3, c4⟩ := blk5s (HXF.out.call3 HW.out)
          by_cases hlt : i ≤ P
          · have T0 : decide ((i : Int) ≤ (P : Int)) = true := decide_eq_true (by omega)
            have T0' : decide (i ≤ P) = true := decide_eq_true hlt
            obtain ⟨j, hj⟩ : ∃ j, j + 1 = i := ⟨i - 1, by have := Hi.out; omega⟩
            obtain ⟨i', hi'⟩ : ∃ z, z = i + 1 := ⟨_, rfl⟩
            have hnm := HNUM.out
            have z1 : IntKind.i64.wrap ((i : Int) + 1) = (i' : Int) := by rw [IntKind.wrap_i64]; omega
            have z2 : IntKind.i64.wrap ((i : Int) - 1) = (j : Int) := by rw [IntKind.wrap_i64]; omega
            have z3 : (0 : Int) ≤ (i : Int) := by omega
            have z4 : (i : Int) < (Q : Int) := by omega
            have z5 : (0 : Int) ≤ (j : Int) := by omega
            have z6 : (j : Int) < (Q : Int) := by omega
            obtain ⟨a0, a1⟩ := (HAF.out.call HW.out).2 i (by omega)
            obtain ⟨a2, a3⟩ := (HAF.out.call HW.out).2 j (by omega)
            obtain ⟨b0, b1⟩ := (HCF.out.call HW.out).2 i (by omega)
            obtain ⟨b2, b3⟩ := (HCF.out.call HW.out).2 j (by omega)
            simp only [Nat.zero_add] at a0 a1 a2 a3 b0 b1 b2 b3
            have w1 := HCA.out j (by omega)
            have w2 := HCK.out j (by omega)
            rw [hj] at w1 w2
            generalize Circ.ca S P i = ai at a1 w1
            generalize Circ.ca S P j = aj at a3 w1
            generalize Circ.ck S P i = ki at b1 w2
            generalize Circ.ck S P j = kj at b3 w2
            generalize Circ.cd S P i = di at a0 b0
            generalize Circ.cd S P j = dj at a2 b2
            have t3 : ((di : Int) != (di : Int)) = false := by simp
            have t4 : decide ((ai : Int) < (aj : Int)) = false := decide_eq_false (by omega)
            have t4' : decide (ai < aj) = false := decide_eq_false (by omega)
            have t5 : decide ((ki : Int) < (kj : Int)) = false := decide_eq_false (by omega)
            have t5' : decide (ki < kj) = false := decide_eq_false (by omega)
            have HMS : Hid (Q - (RowKit.intOf (Value.int .i64 (i' : Int))).toNat < Q - (RowKit.intOf (Value.int .i64 (i : Int))).toNat) := by show _ < _; simp [RowKit.intOf]; omega
            have HI' : Hid (1 ≤ i' ∧ i' ≤ Q) := by show _ ∧ _; omega
            clear hnm w1 w2 hj hi' hlt
            go_upto_region 20 with fail
            go_quiet (fail)
            have HW2 : Hid (Below w4.heap.size w4 (wr.drewN nq)) := below_drewN HW.out _
            go_wp2_with fail
            go_roundw
            case measure => exact HMS.out
            case rel => exact ⟨i', rfl, HI', HW2⟩
          · have T0 : decide ((i : Int) ≤ (P : Int)) = false := decide_eq_false (by omega)
            have T0' : decide (i ≤ P) = false := decide_eq_false hlt
            have hmr := HMORE.out
            have hp2' : P2 = 2 * P := HNUM.out.2.2.2.2.2.1.symm
            rw [← hp2'] at hmr
            clear hlt hp2' HCA HCK
            have HCV := Lib.hid (And.intro (cap_eq v1) (cap_eq v2))
            by_cases gm : R < P2
            · have t6 : decide ((R : Int) < (P2 : Int)) = true := decide_eq_true (by omega)
              have t6' : decide (R < P2) = true := decide_eq_true gm
              clear gm hmr HCV
              rcases cap_eq v1 with ⟨a1, a2, a3⟩ | ⟨a1, a2, a3⟩ <;> rcases cap_eq v2 with ⟨b1, b2, b3⟩ | ⟨b1, b2, b3⟩
              all_goals
                as_aux_lemma =>
                  rw [a1, a2] at F1
                  rw [b1, b2] at F2
                  clear a1 a2 a3 b1 b2 b3
                  go_wp2_with (first
                    | (go_at_call 8
                       fail_if_success (clear hq5)
                       refine (F1.out _ _ _ _ _ (HAF.out.call HW.out) (HCF.out.call HW.out)).mono ?_
                       rintro e w5 ⟨rfl, h5⟩
                       have HW5 := Lib.hid (below_step HW.out h5)
                       have hq5 : wr.heap.size ≤ w5.heap.size := h5.size
                       obtain ⟨d0, d1, d2, d3, d4⟩ := blk5s (HYF.out.call3 HW5.out)
                       clear h5)
                    | (go_at_call 8
                       refine (F2.out _ _ _ _ _ (HDF.out.call HW5.out) (HEF.out.call HW5.out)).mono ?_
                       rintro e w6 ⟨rfl, h5⟩
                       have HW6 := Lib.hid (below_step HW5.out h5)
                       clear h5))
                  go_ret
                  exact ⟨rfl, below_step HBW.out HW6.out⟩
            · have t6 : decide ((R : Int) < (P2 : Int)) = false := decide_eq_false (by omega)
              have t6' : decide (R < P2) = false := decide_eq_false gm
              have hv := hmr gm
              clear gm hmr HCV
              rcases cap_eq v1 with ⟨a1, a2, a3⟩ | ⟨a1, a2, a3⟩ <;> rcases cap_eq v2 with ⟨b1, b2, b3⟩ | ⟨b1, b2, b3⟩ <;> first | (exfalso; omega) | skip
              all_goals
                as_aux_lemma =>
                  rw [a1, a2] at F1
                  rw [b1, b2] at F2
                  have t7 : decide ((v1 : Int) ≤ (v2 : Int)) = true := decide_eq_true (by omega)
                  have t7' : decide (v1 ≤ v2) = true := decide_eq_true hv
                  clear a1 a2 a3 b1 b2 b3 hv
                  go_wp2_with (first
                    | (go_at_call 8
                       fail_if_success (clear hq5)
                       refine (F1.out _ _ _ _ _ (HAF.out.call HW.out) (HCF.out.call HW.out)).mono ?_
                       rintro e w5 ⟨rfl, h5⟩
                       have HW5 := Lib.hid (below_step HW.out h5)
                       have hq5 : wr.heap.size ≤ w5.heap.size := h5.size
                       obtain ⟨d0, d1, d2, d3, d4⟩ := blk5s (HYF.out.call3 HW5.out)
                       clear h5)
                    | (go_at_call 8
                       refine (F2.out _ _ _ _ _ (HDF.out.call HW5.out) (HEF.out.call HW5.out)).mono ?_
                       rintro e w6 ⟨rfl, h5⟩
                       have HW6 := Lib.hid (below_step HW5.out h5)
                       clear h5))
                  go_ret
                  exact ⟨rfl, below_step HBW.out HW6.out⟩
end Go.Proofs.Ytnphcnhefgjpjaa

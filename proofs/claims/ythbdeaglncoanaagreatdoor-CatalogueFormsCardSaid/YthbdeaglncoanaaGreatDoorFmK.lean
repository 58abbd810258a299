/- The reference's Text. Written by gen_fmk.py. -/
import Derived.Test.YthbdeaglncoanaaGreatDoorFmT
import Derived.Test.YthbdeaglncoanaaGreatDoorMgFb
namespace Go.Proofs.YthbdeaglncoanaaGreatDoor
open Go.RowKit Go.Shelf
set_option linter.unusedVariables false
set_option linter.unusedSimpArgs false

theorem ref_join (q0 nm a d ta tb : ByteArray) (h0 : q0.size ≤ 400000) (h1 : nm.size ≤ 5000) (h2 : a.size ≤ 5000) (h3 : d.size ≤ 5000) (h4 : ta.size ≤ 5000) (h5 : tb.size ≤ 5000) : ∃ q1 q2 q3 q4 q5 q6 q7 q8 q9 q10 q11 q12 q13 : ByteArray, (q0 ++ (⟨#[115, 101, 99, 116, 105, 111, 110, 32]⟩ : ByteArray) = q1 ∧ q1 ++ nm = q2 ∧ q2 ++ (⟨#[32]⟩ : ByteArray) = q3 ∧ q3 ++ a = q4 ∧ q4 ++ (⟨#[32]⟩ : ByteArray) = q5 ∧ q5 ++ d = q6 ∧ q6 ++ (⟨#[10]⟩ : ByteArray) = q7 ∧ q7 ++ (⟨#[97, 114, 101, 97, 32]⟩ : ByteArray) = q8 ∧ q8 ++ ta = q9 ∧ q9 ++ (⟨#[10]⟩ : ByteArray) = q10 ∧ q10 ++ (⟨#[99, 111, 110, 118, 101, 121, 97, 110, 99, 101, 32]⟩ : ByteArray) = q11 ∧ q11 ++ tb = q12 ∧ q12 ++ (⟨#[10]⟩ : ByteArray) = q13) ∧ (((q1.size : Nat) : Int) ≤ 8388608 ∧ ((q2.size : Nat) : Int) ≤ 8388608 ∧ ((q3.size : Nat) : Int) ≤ 8388608 ∧ ((q4.size : Nat) : Int) ≤ 8388608 ∧ ((q5.size : Nat) : Int) ≤ 8388608 ∧ ((q6.size : Nat) : Int) ≤ 8388608 ∧ ((q7.size : Nat) : Int) ≤ 8388608 ∧ ((q8.size : Nat) : Int) ≤ 8388608 ∧ ((q9.size : Nat) : Int) ≤ 8388608 ∧ ((q10.size : Nat) : Int) ≤ 8388608 ∧ ((q11.size : Nat) : Int) ≤ 8388608 ∧ ((q12.size : Nat) : Int) ≤ 8388608 ∧ ((q13.size : Nat) : Int) ≤ 8388608) ∧ q13.data.toList = q0.data.toList ++ (wSec ++ 32 :: (nm.data.toList ++ 32 :: (a.data.toList ++ 32 :: d.data.toList)) ++ 10 :: ((wAre ++ 32 :: ta.data.toList) ++ 10 :: ((wCon ++ 32 :: tb.data.toList) ++ [10]))) := by
  refine ⟨_, _, _, _, _, _, _, _, _, _, _, _, _, ⟨rfl, rfl, rfl, rfl, rfl, rfl, rfl, rfl, rfl, rfl, rfl, rfl, rfl⟩, ?_, ?_⟩
  have ec0 : (⟨#[115, 101, 99, 116, 105, 111, 110, 32]⟩ : ByteArray).size = 8 := rfl
  have eb0 : (⟨#[32]⟩ : ByteArray).size = 1 := rfl
  have ee0 : (⟨#[10]⟩ : ByteArray).size = 1 := rfl
  have ecA : (⟨#[97, 114, 101, 97, 32]⟩ : ByteArray).size = 5 := rfl
  have ecC : (⟨#[99, 111, 110, 118, 101, 121, 97, 110, 99, 101, 32]⟩ : ByteArray).size = 11 := rfl
  · simp only [ByteArray.size_append, ec0, eb0, ee0, ecA, ecC]
    omega
  · simp only [ByteArray.data_append, Array.toList_append]
    unfold wSec wAre wCon
    simp
set_option maxRecDepth 100000 in
set_option maxHeartbeats 16000000 in
theorem r_text (A : Option Addr) (n c : Nat) (C : Scs) (hp : catP C n) (w : World) (hC : ScIn w A n C) :
    Calls Tryz.prog 12 #[.slice A n c] w fun e w' => e = .returned (.string ⟨(catT C n).toArray⟩) ∧ Below w.heap.size w w' := by
  have HC := Lib.hid hC
  have HP := Lib.hid hp
  have HN : Hid (n ≤ 40) := hp.1
  clear hC hp
  go_enter Tryz.func12, Tryz.ntmps12
  go_upto_region 2 with fail
  have HW0 := Lib.hid (Below.refl w.heap.size w)
  go_wp2_with fail
  go_loopw [3, 4] (fun t u wr => ∃ (i : Nat) (q : ByteArray), Hid (i ≤ n) ∧ t = .string q ∧ u = .int .i64 i ∧ Hid (q.data.toList = catT C i) ∧ Hid (Below w.heap.size w wr)) (fun _ u _ => n - (RowKit.intOf u).toNat)
  case atStart => exact ⟨0, ⟨#[]⟩, Nat.zero_le _, rfl, rfl, rfl, HW0⟩
  case round =>
    clear HW0
    obtain ⟨i, q0, Hi, rfl, rfl, HQ, HM⟩ := hrel
    by_cases hlt : i < n
    case neg =>
      have T0 : decide ((i : Int) < (n : Int)) = false := by simp <;> omega
      have T0' : decide (i < n) = false := decide_eq_false hlt
      have e : i = n := by have := Hi.out; omega
      subst e
      have HQ2 : Hid (q0 = ⟨(catT C i).toArray⟩) := by
        show _ = _
        apply bytes_ext
        rw [ByteArray.toList_eq, ByteArray.toList_eq, HQ.out]
      clear hlt
      go_wp2_with fail
      go_ret
      refine ⟨?_, HM.out⟩
      rw [← HQ2.out]
      rfl
    have T0 : decide ((i : Int) < (n : Int)) = true := by simp <;> omega
    have T0' : decide (i < n) = true := decide_eq_true hlt
    obtain ⟨i', hi'⟩ : ∃ z, z = i + 1 := ⟨_, rfl⟩
    have x0 : IntKind.i64.wrap ((i : Int) + 1) = (i' : Int) := by have := HN.out; rw [IntKind.wrap_i64]; omega
    have k0 : (0 : Int) ≤ (i : Int) := by omega
    have k1 : (i : Int) < (n : Int) := by omega
    have HMS : Hid (n - (RowKit.intOf (Value.int .i64 (i' : Int))).toNat < n - (RowKit.intOf (Value.int .i64 (i : Int))).toNat) := by show _ < _; simp [RowKit.intOf]; omega
    have HI' : Hid (i' ≤ n) := by show _ ≤ _; omega
    have hsp := (HP.out.2 i hlt).1
    have hcl := catT_len (C := C) (n := i) fun q hq => (HP.out.2 q (by omega)).1
    have hq := secP_near hsp
    have hll := ln_len hsp
    obtain ⟨bk, off, rfl, hbk, hCc, htA, htB⟩ := (HC.out.below (Nat.le_refl _) HM.out).at hlt
    have c0 := hCc 0 _ rfl
    have c1 := hCc 1 _ rfl
    have c2 := hCc 2 _ rfl
    have c3 := hCc 3 _ rfl
    have c4 := hCc 4 _ rfl
    simp only [Nat.add_zero] at c0
    obtain ⟨ba, oa, hAA, htA⟩ := curve_tab hsp.2.2.2.2.2.1.1 htA
    obtain ⟨bb, ob, hBB, htB⟩ := curve_tab hsp.2.2.2.2.2.2.1 htB
    have XA : Hid (∀ w', Below wr.heap.size wr w' → Calls Tryz.prog 32 #[.slice (C.AA i) (C.AN i) (C.AC i)] w' fun e w'' => e = .returned (.string ⟨(txL (C.AX i) (C.AY i) (C.AN i)).toArray⟩) ∧ Below w'.heap.size w' w'') := fun w' hb => by
      rw [hAA]
      exact rtext_ok ba oa (C.AN i) (C.AC i) (C.AX i) (C.AY i) w' hsp.2.2.2.2.2.1.1 (htA.below hb htA.1)
    have XB : Hid (∀ w', Below wr.heap.size wr w' → Calls Tryz.prog 32 #[.slice (C.BA i) (C.BN i) (C.BC i)] w' fun e w'' => e = .returned (.string ⟨(txL (C.BX i) (C.BY i) (C.BN i)).toArray⟩) ∧ Below w'.heap.size w' w'') := fun w' hb => by
      rw [hBB]
      exact rtext_ok bb ob (C.BN i) (C.BC i) (C.BX i) (C.BY i) w' hsp.2.2.2.2.2.2.1 (htB.below hb htB.1)
    have IA : Hid (∀ w', Calls Tryz.prog 31 #[.int .i64 (C.Ht i)] w' fun e w'' => e = .returned (.string ⟨(Lib.itoa (C.Ht i)).toArray⟩) ∧ Below w'.heap.size w' w'') := fun w' => by
      obtain ⟨N, hN⟩ : ∃ N : Nat, C.Ht i = (N : Int) := ⟨(C.Ht i).toNat, by have := hsp.2.1; omega⟩
      have := hsp.2.2.1
      rw [hN]
      exact rdec4 N (by omega) w'
    have IB : Hid (∀ w', Calls Tryz.prog 31 #[.int .i64 (C.Pr i)] w' fun e w'' => e = .returned (.string ⟨(Lib.itoa (C.Pr i)).toArray⟩) ∧ Below w'.heap.size w' w'') := fun w' => by
      obtain ⟨N, hN⟩ : ∃ N : Nat, C.Pr i = (N : Int) := ⟨(C.Pr i).toNat, by have := hsp.2.2.2.1; omega⟩
      have := hsp.2.2.2.2.1
      rw [hN]
      exact rdec4 N (by omega) w'
    have HEQ : Hid (catT C i' = catT C i ++ secT C i) := by show _ = _; rw [hi']; rfl
    have hs0 := secT_eq C i
    have hl0 := secT_len hsp
    obtain ⟨S, hS⟩ : ∃ S, secT C i = S := ⟨_, rfl⟩
    rw [hS] at HEQ hs0 hl0
    obtain ⟨nm, hnm⟩ : ∃ q : ByteArray, q = C.Nm i := ⟨_, rfl⟩
    obtain ⟨h, hh⟩ : ∃ q, q = C.Ht i := ⟨_, rfl⟩
    obtain ⟨r, hr⟩ : ∃ q, q = C.Pr i := ⟨_, rfl⟩
    obtain ⟨a, ha⟩ : ∃ q : ByteArray, q = ⟨(Lib.itoa (C.Ht i)).toArray⟩ := ⟨_, rfl⟩
    obtain ⟨d, hd⟩ : ∃ q : ByteArray, q = ⟨(Lib.itoa (C.Pr i)).toArray⟩ := ⟨_, rfl⟩
    obtain ⟨ta, hta⟩ : ∃ q : ByteArray, q = ⟨(txL (C.AX i) (C.AY i) (C.AN i)).toArray⟩ := ⟨_, rfl⟩
    obtain ⟨tb, htb⟩ : ∃ q : ByteArray, q = ⟨(txL (C.BX i) (C.BY i) (C.BN i)).toArray⟩ := ⟨_, rfl⟩
    have hsz : nm.size ≤ 5000 ∧ a.size ≤ 5000 ∧ d.size ≤ 5000 ∧ ta.size ≤ 5000 ∧ tb.size ≤ 5000 := by
      have q1 := (secP_n hsp).2.2.2
      have e1 : (C.Nm i).data.toList.length = (C.Nm i).size := rfl
      have q2 := itoa_len hq.1
      have q3 := itoa_len hq.2
      have e2 : a.size = (Lib.itoa (C.Ht i)).length := by rw [ha]; rfl
      have e3 : d.size = (Lib.itoa (C.Pr i)).length := by rw [hd]; rfl
      have e4 : ta.size = (txL (C.AX i) (C.AY i) (C.AN i)).length := by rw [hta]; rfl
      have e5 : tb.size = (txL (C.BX i) (C.BY i) (C.BN i)).length := by rw [htb]; rfl
      have q4 : (ln2 C i).length = 4 + ((txL (C.AX i) (C.AY i) (C.AN i)).length + 1) := by unfold ln2 wAre; rw [List.length_append, List.length_cons]; rfl
      have q5 : (ln3 C i).length = 10 + ((txL (C.BX i) (C.BY i) (C.BN i)).length + 1) := by unfold ln3 wCon; rw [List.length_append, List.length_cons]; rfl
      rw [hnm]
      omega
    have hq0 : q0.size ≤ 400000 := by
      have e : q0.data.toList.length = q0.size := rfl
      have := HN.out
      rw [HQ.out] at e
      omega
    rw [← hnm] at c0
    rw [← hh] at c1 IA
    rw [← hr] at c2 IB
    rw [← hta] at XA
    rw [← htb] at XB
    rw [hh, ← ha, ← hh] at IA
    rw [hr, ← hd, ← hr] at IB
    have hs1 : S = wSec ++ 32 :: (nm.data.toList ++ 32 :: (a.data.toList ++ 32 :: d.data.toList)) ++ 10 :: ((wAre ++ 32 :: ta.data.toList) ++ 10 :: ((wCon ++ 32 :: tb.data.toList) ++ [10])) := by rw [hs0, hnm, ha, hd, hta, htb]
    obtain ⟨q1, q2, q3, q4, q5, q6, q7, q8, q9, q10, q11, q12, q13, ⟨j1, j2, j3, j4, j5, j6, j7, j8, j9, j10, j11, j12, j13⟩, ⟨z1, z2, z3, z4, z5, z6, z7, z8, z9, z10, z11, z12, z13⟩, hj⟩ := ref_join q0 nm a d ta tb hq0 hsz.1 hsz.2.1 hsz.2.2.1 hsz.2.2.2.1 hsz.2.2.2.2
    have HS1 : Hid (q13.data.toList = catT C i') := by show _ = _; rw [hj, ← hs1, HEQ.out, HQ.out]
    have y0 : ((q0.size : Nat) : Int) ≤ 8388608 := by omega
    have s_c0 : (((⟨#[115, 101, 99, 116, 105, 111, 110, 32]⟩ : ByteArray).size : Nat) : Int) ≤ 8388608 := by decide
    have s_b0 : (((⟨#[32]⟩ : ByteArray).size : Nat) : Int) ≤ 8388608 := by decide
    have s_e0 : (((⟨#[10]⟩ : ByteArray).size : Nat) : Int) ≤ 8388608 := by decide
    have s_cA : (((⟨#[97, 114, 101, 97, 32]⟩ : ByteArray).size : Nat) : Int) ≤ 8388608 := by decide
    have s_cC : (((⟨#[99, 111, 110, 118, 101, 121, 97, 110, 99, 101, 32]⟩ : ByteArray).size : Nat) : Int) ≤ 8388608 := by decide
    have y1 : ((nm.size : Nat) : Int) ≤ 8388608 := by omega
    have y2 : ((a.size : Nat) : Int) ≤ 8388608 := by omega
    have y3 : ((d.size : Nat) : Int) ≤ 8388608 := by omega
    have y4 : ((ta.size : Nat) : Int) ≤ 8388608 := by omega
    have y5 : ((tb.size : Nat) : Int) ≤ 8388608 := by omega
    have lm1 : ¬ 9223372036854775807 < q0.size + 8 := by omega
    have lm2 : ¬ 9223372036854775807 < q1.size + nm.size := by omega
    have lm3 : ¬ 9223372036854775807 < q2.size + 1 := by omega
    have lm4 : ¬ 9223372036854775807 < q3.size + a.size := by omega
    have lm5 : ¬ 9223372036854775807 < q4.size + 1 := by omega
    have lm6 : ¬ 9223372036854775807 < q5.size + d.size := by omega
    have lm7 : ¬ 9223372036854775807 < q6.size + 1 := by omega
    have lm8 : ¬ 9223372036854775807 < q7.size + 5 := by omega
    have lm9 : ¬ 9223372036854775807 < q8.size + ta.size := by omega
    have lm10 : ¬ 9223372036854775807 < q9.size + 1 := by omega
    have lm11 : ¬ 9223372036854775807 < q10.size + 11 := by omega
    have lm12 : ¬ 9223372036854775807 < q11.size + tb.size := by omega
    have lm13 : ¬ 9223372036854775807 < q12.size + 1 := by omega
    generalize C.AA i = AA at c3 XA
    generalize C.BA i = BA at c4 XB
    generalize C.AN i = AN at c3 XA
    generalize C.BN i = BN at c4 XB
    generalize C.AC i = AC at c3 XA
    generalize C.BC i = BC at c4 XB
    have HS : Hid (∀ w', Below wr.heap.size wr w' → w'.cell? ⟨bk, off + i * 5, none⟩ = some (.string nm) ∧ w'.cell? ⟨bk, off + i * 5 + 1, none⟩ = some (.int .i64 h) ∧ w'.cell? ⟨bk, off + i * 5 + 2, none⟩ = some (.int .i64 r) ∧ w'.cell? ⟨bk, off + i * 5 + 3, none⟩ = some (.slice AA AN AC) ∧ w'.cell? ⟨bk, off + i * 5 + 4, none⟩ = some (.slice BA BN BC)) := fun w' hb => ⟨(hb.cell (p := ⟨bk, off + i * 5, none⟩) hbk).trans c0, (hb.cell (p := ⟨bk, off + i * 5 + 1, none⟩) hbk).trans c1, (hb.cell (p := ⟨bk, off + i * 5 + 2, none⟩) hbk).trans c2, (hb.cell (p := ⟨bk, off + i * 5 + 3, none⟩) hbk).trans c3, (hb.cell (p := ⟨bk, off + i * 5 + 4, none⟩) hbk).trans c4⟩
    clear hi' hlt hbk hsp hcl hq hll hCc htA htB hAA hBB hs0 hl0 hS hs1 hj hnm hh hr ha hd hta htb hsz hq0 c0 c1 c2 c3 c4
    go_upto_region 5 with fail
    go_cut [3] from 5 to 5 (fun z wx => z = .string q7 ∧ Hid (Below wr.heap.size wr wx))
    case first =>
      have hs0 := HS.out wr (Below.refl _ _)
      have hs1 := HS.out wr.drew (Below.refl _ _).drew
      go_region_held3 (fun w' => w'.cell? ⟨bk, off + i * 5, none⟩ = some (.string nm) ∧ w'.cell? ⟨bk, off + i * 5 + 1, none⟩ = some (.int .i64 h) ∧ w'.cell? ⟨bk, off + i * 5 + 2, none⟩ = some (.int .i64 r) ∧ w'.cell? ⟨bk, off + i * 5 + 3, none⟩ = some (.slice AA AN AC) ∧ w'.cell? ⟨bk, off + i * 5 + 4, none⟩ = some (.slice BA BN BC)) (first | with_reducible exact hs0 | with_reducible exact hs1 | with_reducible assumption | exact HS.out _ (by (repeat' (first | assumption | exact Below.refl _ _ | exact Below.size (by assumption) | (refine Below.setCell ?_ ?_ _) | (refine Below.alloc ?_ ?_ _) | (refine Below.drew ?_) | (refine below_drewN ?_ _) | (refine Below.trans ?_ (Below.mono ‹Below _ _ _› ?_)) | omega | (simp; done) | (simp; omega) | (simp at *; omega))))) (first
        | (go_at_call 31
           with_reducible refine (IA.out _).mono ?_
           rintro e w5 ⟨rfl, hb5⟩
           have HB5 : Hid (Below wr.heap.size wr w5) := by first | exact bl_drew hb5 | exact hb5
           have hs5 := HS.out _ HB5.out
           clear hb5)
        | (go_at_call 31
           with_reducible refine (IB.out _).mono ?_
           rintro e w6 ⟨rfl, hb6⟩
           have HB6 : Hid (Below wr.heap.size wr w6) := below_step HB5.out hb6
           have hs6 := HS.out _ HB6.out
           clear hb6))
      all_goals
        clear IA IB XA XB HS hs0 hs1 hs5 hs6
        go_wp2_with fail
        go_meet
        exact ⟨rfl, HB6⟩
    case rest =>
    obtain ⟨rfl, HB5⟩ := hcut
    clear IA IB j1 j2 j3 j4 j5 j6 j7 z1 z2 z3 z4 z5 z6
    go_upto_region 6 with fail
    have hs0 := HS.out wc HB5.out
    have hs1 := HS.out wc.drew HB5.out.drew
    go_region_held3 (fun w' => w'.cell? ⟨bk, off + i * 5, none⟩ = some (.string nm) ∧ w'.cell? ⟨bk, off + i * 5 + 1, none⟩ = some (.int .i64 h) ∧ w'.cell? ⟨bk, off + i * 5 + 2, none⟩ = some (.int .i64 r) ∧ w'.cell? ⟨bk, off + i * 5 + 3, none⟩ = some (.slice AA AN AC) ∧ w'.cell? ⟨bk, off + i * 5 + 4, none⟩ = some (.slice BA BN BC)) (first | with_reducible exact hs0 | with_reducible exact hs1 | with_reducible assumption | exact HS.out _ (by (repeat' (first | assumption | exact Below.refl _ _ | exact Below.size (by assumption) | (refine Below.setCell ?_ ?_ _) | (refine Below.alloc ?_ ?_ _) | (refine Below.drew ?_) | (refine below_drewN ?_ _) | (refine Below.trans ?_ (Below.mono ‹Below _ _ _› ?_)) | omega | (simp; done) | (simp; omega) | (simp at *; omega))))) (first
      | (go_at_call 32
         with_reducible refine (XA.out _ ?_).mono ?_
         focus (first | exact HB5.out | exact HB5.out.drew)
         rintro e w7 ⟨rfl, hb7⟩
         have HB7 : Hid (Below wr.heap.size wr w7) := below_step HB5.out (by first | exact bl_drew hb7 | exact hb7)
         have hs7 := HS.out _ HB7.out
         clear hb7)
      | (go_at_call 32
         with_reducible refine (XB.out _ HB7.out).mono ?_
         rintro e w8 ⟨rfl, hb8⟩
         have HB8 : Hid (Below wr.heap.size wr w8) := below_step HB7.out hb8
         have hs8 := HS.out _ HB8.out
         clear hb8))
    all_goals
      clear XA XB HS hs0 hs1 hs7 hs8 j8 j9 j10 j11 j12 j13 z7 z8 z9 z10 z11 z12 z13
      go_wp2_with fail
      go_roundw
      case rel => exact ⟨i', q13, HI', rfl, rfl, HS1, Lib.hid (below_step HM.out HB8.out)⟩
      case measure => exact HMS.out
end Go.Proofs.YthbdeaglncoanaaGreatDoor

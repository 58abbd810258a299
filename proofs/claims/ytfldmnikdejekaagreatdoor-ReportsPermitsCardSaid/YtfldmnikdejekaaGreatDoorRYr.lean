/- The reference's Split, Years, InYear. -/
import Derived.Test.YtfldmnikdejekaaGreatDoorRSp
import Derived.Test.YtfldmnikdejekaaGreatDoorAcF
namespace Go.Proofs.YtfldmnikdejekaaGreatDoor
open Go.RowKit
set_option linter.unusedVariables false
set_option linter.unusedSimpArgs false

set_option maxRecDepth 100000 in
set_option maxHeartbeats 4000000 in
theorem rsplit (t y er : Int) (h : TimeIs t y er) (w : World) : Calls Tryz.prog 225 #[.int .i64 t] w (SplitPost w y er) := by
  have S1 := Lib.hid fun w => rinst t w
  have SD := Lib.hid fun w => rdated (t / 86400) w
  have B0 : Hid (Blk (w.alloc (Obj.cells #[.int .i64 0, .int .i64 0, .int .i64 0] 262)) w.heap.size 262 #[.int .i64 0, .int .i64 0, .int .i64 0]) := Blk.new _ _ _
  have W0 : Hid (Below w.heap.size w (w.alloc (Obj.cells #[.int .i64 0, .int .i64 0, .int .i64 0] 262))) := by show Below _ _ _; (repeat' (first | assumption | exact Below.refl _ _ | exact Below.size (by assumption) | (refine Below.setCell ?_ ?_ _) | (refine Below.alloc ?_ ?_ _) | (refine Below.drew ?_) | (refine below_drewN ?_ _) | (refine Below.trans ?_ (Below.mono ‹Below _ _ _› ?_)) | omega | (simp; done) | (simp; omega) | (simp at *; omega)))
  cases h with
  | range h =>
    rw [decide_eq_false h] at S1
    clear h SD
    go_enter Tryz.func225, Tryz.ntmps225
    go_wp2_with (first | (go_at_call 224; (with_reducible refine (S1.out _).mono ?_); rintro e w' ⟨rfl, rfl⟩))
    obtain ⟨s0, s1, s2⟩ := date_cells B0.out
    generalize (w.alloc (Obj.cells #[.int .i64 0, .int .i64 0, .int .i64 0] 262)) = wq at W0 s0 s1 s2 ⊢
    refine bodyPost_ret (v := .tuple #[.agg #[.int .i64 0, .int .i64 0, .int .i64 0], .int .i64 0, .int .i64 2]) (by simp [results, Tryz.results225, go_sem, *]) rfl ⟨⟨_, _, _, rfl⟩, W0.out⟩
  | time h h2 =>
    rw [decide_eq_true h] at S1
    rw [decide_eq_false (by omega)] at SD
    have S2 := Lib.hid fun w => rfloor5 t h w
    clear h h2
    generalize t / 86400 = d at S2 SD
    go_enter Tryz.func225, Tryz.ntmps225
    go_wp2_with (first
      | (go_at_call 224; (with_reducible refine (S1.out _).mono ?_); rintro e w' ⟨rfl, rfl⟩)
      | (go_at_call 264; (with_reducible refine (S2.out _).mono ?_); rintro e w' ⟨rfl, rfl⟩)
      | (go_at_call 265
         with_reducible refine (SD.out _).mono ?_
         rintro e w1 ⟨rfl, hb1⟩
         have B1 := Lib.hid (B0.out.call hb1)
         have W1 := Lib.hid (below_step W0.out hb1)
         obtain ⟨q0, q1, q2⟩ := date_cells B1.out
         obtain ⟨r0, r1, r2⟩ := frozen3 B1.out
         have hl := B1.out.lt
         clear hb1))
    have hz := split_end (a := 0) (b := 0) (c := 0) B1.out W1.out rfl
    have hz1 := hz.1
    have HZ2 := Lib.hid hz.2
    clear hz q0 q1 q2 r0 r1 r2
    generalize (((w1.setCell ⟨w.heap.size, 0, none⟩ (.int .i64 0)).setCell ⟨w.heap.size, 1, none⟩ (.int .i64 0)).setCell ⟨w.heap.size, 2, none⟩ (.int .i64 0)) = wq at hz1 HZ2 ⊢
    obtain ⟨s0, s1, s2⟩ := date_cells hz1
    refine bodyPost_ret (v := .tuple #[.agg #[.int .i64 0, .int .i64 0, .int .i64 0], .int .i64 0, .int .i64 20]) (by simp [results, Tryz.results225, go_sem, *]) rfl ⟨⟨_, _, _, rfl⟩, HZ2.out⟩
  | ok h h2 =>
    rw [decide_eq_true h] at S1
    have hya := h2.a
    have hyb := h2.b
    have b1 := yb_le h2.lo
    have b2 := yb_le (show y + 1 ≤ 10000 by have := h2.hi; omega)
    rw [yb_1] at b1
    rw [yb_10000] at b2
    rw [decide_eq_true (by omega)] at SD
    have S2 := Lib.hid fun w => rfloor5 t h w
    have S3 := Lib.hid fun w => rdateof (t / 86400) y h2 w
    obtain ⟨d, hd⟩ : ∃ d, d = t / 86400 := ⟨_, rfl⟩
    rw [← hd] at S2 S3 SD
    obtain ⟨dd, hdd⟩ : ∃ z, z = d * 86400 := ⟨_, rfl⟩
    obtain ⟨s, hs⟩ : ∃ z, z = t - dd := ⟨_, rfl⟩
    have hb : -68719476736 ≤ t ∧ t ≤ 68719476736 := h
    have x1 : IntKind.i64.wrap (d * 86400) = dd := by rw [IntKind.wrap_i64]; omega
    have x2 : IntKind.i64.wrap (t - dd) = s := by rw [IntKind.wrap_i64]; omega
    clear h h2 hd hdd hs hb hya hyb b1 b2
    go_enter Tryz.func225, Tryz.ntmps225
    go_wp2_with (first
      | (go_at_call 224; (with_reducible refine (S1.out _).mono ?_); rintro e w' ⟨rfl, rfl⟩)
      | (go_at_call 264; (with_reducible refine (S2.out _).mono ?_); rintro e w' ⟨rfl, rfl⟩)
      | (go_at_call 265
         with_reducible refine (SD.out _).mono ?_
         rintro e w1 ⟨rfl, hb1⟩
         have B1 := Lib.hid (B0.out.call hb1)
         have W1 := Lib.hid (below_step W0.out hb1)
         clear hb1)
      | (go_at_call 266
         with_reducible refine (S3.out _).mono ?_
         rintro e w2 ⟨⟨m, k, rfl⟩, hb2⟩
         have B2 := Lib.hid (B1.out.call hb2)
         have W2 := Lib.hid (below_step W1.out hb2)
         obtain ⟨q0, q1, q2⟩ := date_cells B2.out
         obtain ⟨r0, r1, r2⟩ := frozen3 B2.out
         have hl := B2.out.lt
         clear hb2))
    have hz := split_end (a := y) (b := m) (c := k) B2.out W2.out rfl
    have hz1 := hz.1
    have HZ2 := Lib.hid hz.2
    clear hz q0 q1 q2 r0 r1 r2
    generalize (((w2.setCell ⟨w.heap.size, 0, none⟩ (.int .i64 y)).setCell ⟨w.heap.size, 1, none⟩ (.int .i64 m)).setCell ⟨w.heap.size, 2, none⟩ (.int .i64 k)) = wq at hz1 HZ2 ⊢
    obtain ⟨s0, s1, s2⟩ := date_cells hz1
    refine bodyPost_ret (v := .tuple #[.agg #[.int .i64 y, .int .i64 m, .int .i64 k], .int .i64 s, .int .i64 0]) (by simp [results, Tryz.results225, go_sem, *]) rfl ⟨⟨_, _, _, rfl⟩, HZ2.out⟩
def capR (x : Int) : Int := if x ≤ 1152921504606846976 then x else 1152921504606846976
theorem capR_zero : capR 0 = 0 := by decide
theorem capR_nn {x : Int} (h : 0 ≤ x) : 0 ≤ capR x ∧ capR x ≤ 1152921504606846976 := by unfold capR; split <;> omega
theorem capR_add {a t : Int} (h1 : 0 ≤ a) (h2 : 0 ≤ t) : capR (capR a + t) = capR (a + t) := by unfold capR; split <;> split <;> (try split) <;> omega
theorem capR_gt {x m : Int} (h : m ≤ 576460752303423488) : m < capR x ↔ m < x := by unfold capR; split <;> omega
theorem rplus (a b : Int) (h1 : 0 ≤ a ∧ a ≤ 1152921504606846976) (h2 : 0 ≤ b ∧ b ≤ 1152921504606846976) (w : World) : Calls Tryz.prog 226 #[.int .i64 a, .int .i64 b] w fun e w' => e = .returned (.int .i64 (capR (a + b))) ∧ w = w' := by
  obtain ⟨s, hs⟩ : ∃ z, z = a + b := ⟨_, rfl⟩
  have x1 : IntKind.i64.wrap (a + b) = s := by rw [IntKind.wrap_i64]; omega
  rw [← hs]
  by_cases h : 1152921504606846976 < s
  · have t1 : decide ((1152921504606846976 : Int) < s) = true := decide_eq_true h
    have e : capR s = 1152921504606846976 := by unfold capR; rw [if_neg (by omega)]
    rw [e]
    clear h1 h2 hs h e
    go_enter Tryz.func226, Tryz.ntmps226
    go_wp2_with fail
    go_ret
    exact ⟨rfl, rfl⟩
  · have t1 : decide ((1152921504606846976 : Int) < s) = false := decide_eq_false h
    have e : capR s = s := by unfold capR; rw [if_pos (by omega)]
    rw [e]
    clear h1 h2 hs h e
    go_enter Tryz.func226, Tryz.ntmps226
    go_wp2_with fail
    go_ret
    exact ⟨rfl, rfl⟩
set_option maxRecDepth 100000 in
set_option maxHeartbeats 4000000 in
/-- How many of the first k events are of a year, and their sum. -/
theorem rinyear (A : Option Addr) (n c : Nat) (E : Evs) (B : Option Addr) (nb cb : Nat) (Y : Nat → Int) (k : Nat) (y : Int) (h40 : n ≤ 40) (hk : k ≤ n) (hr : rightP E n) (w : World) (hT : EvIn w A n E) (hY : IntIn w B n Y) (hnb : nb = n) :
    Calls Tryz.prog 173 #[.slice A n c, .slice B nb cb, .int .i64 (k : Int), .int .i64 y] w fun e w' => e = .returned (.tuple #[.int .i64 (cnt Y y k : Int), .int .i64 (capR (sm Y E.Tot y k))]) ∧ w = w' := by
  subst hnb
  have HT := Lib.hid hT
  have HY := Lib.hid hY
  have HR := Lib.hid hr
  have H40 : Hid (k ≤ 40 ∧ k ≤ nb) := ⟨by omega, hk⟩
  have SP := Lib.hid fun a b h1 h2 w => rplus a b h1 h2 w
  clear h40 hk hr hT hY
  go_enter Tryz.func173, Tryz.ntmps173
  go_wp2_with fail
  go_loopw [10, 11, 12] (fun u v x wr => ∃ i : Nat, Hid (i ≤ k) ∧ u = .int .i64 (cnt Y y i : Int) ∧ v = .int .i64 (capR (sm Y E.Tot y i)) ∧ x = .int .i64 i ∧ w = wr) (fun _ _ x _ => k - (intOf x).toNat)
  case atStart => exact ⟨0, Nat.zero_le _, rfl, by rw [show sm Y E.Tot y 0 = 0 from rfl, capR_zero], rfl, rfl⟩
  case round =>
    obtain ⟨i, Hi, rfl, rfl, rfl, rfl⟩ := hrel
    by_cases hlt : i < k
    · have T0 : decide ((i : Int) < (k : Int)) = true := by simp <;> omega
      have T0' : decide (i < k) = true := decide_eq_true hlt
      obtain ⟨i', hi'⟩ : ∃ z, z = i + 1 := ⟨_, rfl⟩
      have x0 : IntKind.i64.wrap ((i : Int) + 1) = (i' : Int) := by have := H40.out; rw [IntKind.wrap_i64]; omega
      have HI' : Hid (i' ≤ k) := by show i' ≤ k; omega
      have HMS : Hid (k - (intOf (Value.int .i64 (i' : Int))).toNat < k - (intOf (Value.int .i64 (i : Int))).toNat) := by show _ < _; simp [intOf]; omega
      have hin : i < nb := by have := H40.out; omega
      have k0 : (0 : Int) ≤ (i : Int) := by omega
      have k1 : (i : Int) < (nb : Int) := by omega
      obtain ⟨eb, eoff, rfl, heb, c0, c1, c2, c3⟩ := HT.out.at hin
      obtain ⟨yb, yoff, rfl, hyb, cy⟩ := HY.out.at hin
      have hbd := HR.out.bounds hin
      have hsn := sm_nn (Y := Y) (T := E.Tot) (y := y) i (fun j hj => by have := HR.out.bounds (show j < nb by omega); omega)
      have hcl := cnt_le Y y i
      have hcp := capR_nn hsn
      have SP2 := Lib.hid fun w => SP.out (capR (sm Y E.Tot y i)) (E.Tot i) hcp (by omega) w
      rw [capR_add hsn (by omega)] at SP2
      have hc1 : cnt Y y i' = cnt Y y i + (if Y i = y then 1 else 0) := by rw [hi']; rfl
      have hs1 : sm Y E.Tot y i' = sm Y E.Tot y i + (if Y i = y then E.Tot i else 0) := by rw [hi']; rfl
      by_cases hy : Y i = y
      · have t1 : (Y i == y) = true := by simp [hy]
        rw [if_pos hy] at hc1 hs1
        rw [← hs1] at SP2
        have xc : IntKind.i64.wrap ((cnt Y y i : Int) + 1) = (cnt Y y i' : Int) := by have := H40.out; rw [IntKind.wrap_i64]; omega
        clear hlt hi' hin hbd hsn hcl hcp hc1 hs1 hy
        go_wp2_with (first | (go_at_call 226; (with_reducible refine (SP2.out _).mono ?_); rintro e w' ⟨rfl, rfl⟩))
        go_roundw
        case rel => exact ⟨i', HI', rfl, rfl, rfl, by trivial⟩
        case measure => exact HMS.out
      · have t1 : (Y i == y) = false := by simp [hy]
        rw [if_neg hy, Nat.add_zero] at hc1
        rw [if_neg hy, Int.add_zero] at hs1
        have HC1 := Lib.hid hc1
        have HS1 := Lib.hid hs1
        clear hlt hi' hin hbd hsn hcl hcp hc1 hs1 hy
        go_wp2_with fail
        go_roundw
        case rel => exact ⟨i', HI', by rw [HC1.out], by rw [HS1.out], rfl, by trivial⟩
        case measure => exact HMS.out
    · have hin : i = k := by have := Hi.out; omega
      have T0 : decide ((i : Int) < (k : Int)) = false := by simp <;> omega
      have T0' : decide (i < k) = false := decide_eq_false hlt
      rw [hin]
      clear hlt hin
      go_wp2_with fail
      go_ret2
      exact ⟨rfl, rfl⟩
end Go.Proofs.YtfldmnikdejekaaGreatDoor

/- Accounts: what an event adds, what breaks a permit; when an event begins; Count. -/
import Derived.Test.YtigocjhmgmhocaaGreatDoorOvf
import Derived.Test.YtigocjhmgmhocaaGreatDoorNam
import Derived.Test.YtigocjhmgmhocaaGreatDoorSpl
namespace Go.Proofs.YtigocjhmgmhocaaGreatDoor
open Go.RowKit
set_option linter.unusedVariables false
set_option linter.unusedSimpArgs false

set_option maxRecDepth 100000 in
theorem tbegin (f t tt pk from_ sec : Int) (h : stepP from_ sec) (h0 : 0 ≤ f) (h1 : f ≤ 10000) (w : World) : Calls Tryz.prog 55 #[.agg #[.int .i64 f, .int .i64 t, .int .i64 tt, .int .i64 pk], .int .i64 from_, .int .i64 sec] w fun e w' => e = .returned (.int .i64 (from_ + sec * f)) ∧ Below w.heap.size w w' := by
  have hb := t_bound h h0 h1
  have hs := h
  unfold stepP InstP at hs
  obtain ⟨p, hp⟩ : ∃ z, z = sec * f := ⟨_, rfl⟩
  obtain ⟨q, hq⟩ : ∃ z, z = from_ + p := ⟨_, rfl⟩
  rw [← hp] at hb ⊢
  rw [← hq]
  have x1 : IntKind.i64.wrap (sec * f) = p := by rw [← hp, IntKind.wrap_i64]; omega
  have x2 : IntKind.i64.wrap (from_ + p) = q := by rw [← hq, IntKind.wrap_i64]; omega
  clear hb hs h h0 h1 hp hq
  go_enter Tryz.func55, Tryz.ntmps55
  go_wp2_with fail
  go_ret
  exact ⟨rfl, by (repeat' (first | assumption | exact Below.refl _ _ | exact Below.size (by assumption) | (refine Below.setCell ?_ ?_ _) | (refine Below.alloc ?_ ?_ _) | (refine Below.drew ?_) | (refine below_drewN ?_ _) | (refine Below.trans ?_ (Below.mono ‹Below _ _ _› ?_)) | omega | (simp; done) | (simp; omega) | (simp at *; omega)))⟩
set_option maxRecDepth 100000 in
theorem twith (a b f t tt pk : Int) (ha : 0 ≤ a) (ha1 : a ≤ 10000) (hb : 0 ≤ b) (hb1 : b ≤ 576460752303423489) (ht : 0 ≤ tt) (w : World) : Calls Tryz.prog 35 #[.agg #[.int .i64 a, .int .i64 b], .agg #[.int .i64 f, .int .i64 t, .int .i64 tt, .int .i64 pk]] w fun e w' => e = .returned (.agg #[.int .i64 (a + 1), .int .i64 (cutS (b + cutS tt))]) ∧ Below w.heap.size w w' := by
  obtain ⟨a', ha'⟩ : ∃ z, z = a + 1 := ⟨_, rfl⟩
  have x1 : IntKind.i64.wrap (a + 1) = a' := by rw [← ha', IntKind.wrap_i64]; omega
  obtain ⟨c, hc⟩ : ∃ z, z = cutS tt := ⟨_, rfl⟩
  have hcl := cut_le tt
  have hcn := cut_nn ht
  rw [← hc] at hcl hcn
  obtain ⟨d, hd⟩ : ∃ z, z = b + c := ⟨_, rfl⟩
  have x2 : IntKind.i64.wrap (b + c) = d := by rw [← hd, IntKind.wrap_i64]; omega
  obtain ⟨g, hg⟩ : ∃ z, z = cutS d := ⟨_, rfl⟩
  have m1 : min tt 576460752303423489 = c := by rw [hc]; unfold cutS; split <;> omega
  have m2 : min d 576460752303423489 = g := by rw [hg]; unfold cutS; split <;> omega
  rw [← ha', ← hc, ← hd, ← hg]
  clear ha ha1 hb hb1 ht hc hd hg hcl hcn ha'
  go_enter Tryz.func35, Tryz.ntmps35
  go_wp2_with fail
  refine bodyPost_ret (v := .agg #[.int .i64 a', .int .i64 g]) (by simp [results, Tryz.results35, go_sem, *]) rfl ⟨rfl, ?_⟩
  (repeat' (first | assumption | exact Below.refl _ _ | exact Below.size (by assumption) | (refine Below.setCell ?_ ?_ _) | (refine Below.alloc ?_ ?_ _) | (refine Below.drew ?_) | (refine below_drewN ?_ _) | (refine Below.trans ?_ (Below.mono ‹Below _ _ _› ?_)) | omega | (simp; done) | (simp; omega) | (simp at *; omega)))
set_option maxRecDepth 100000 in
theorem tbroken (nm nd : ByteArray) (ev vol tot a b : Int) (w : World) : Calls Tryz.prog 38 #[.agg #[.string nm, .string nd, .int .i64 ev, .int .i64 vol, .int .i64 tot], .agg #[.int .i64 a, .int .i64 b]] w fun e w' => e = .returned (.tuple #[.bool (decide (ev < a)), .bool (decide (tot < b))]) ∧ Below w.heap.size w w' := by
  go_enter Tryz.func38, Tryz.ntmps38
  go_wp2_with fail
  go_quiet (fail)
  go_wp2_with fail
  go_ret2
  exact ⟨rfl, by (repeat' (first | assumption | exact Below.refl _ _ | exact Below.size (by assumption) | (refine Below.setCell ?_ ?_ _) | (refine Below.alloc ?_ ?_ _) | (refine Below.drew ?_) | (refine below_drewN ?_ _) | (refine Below.trans ?_ (Below.mono ‹Below _ _ _› ?_)) | omega | (simp; done) | (simp; omega) | (simp at *; omega)))⟩
set_option maxRecDepth 100000 in
set_option maxHeartbeats 4000000 in
theorem tcount (A : Option Addr) (n c : Nat) (E : Evs) (h40 : n ≤ 40) (w : World) (hT : EvIn w A n E) (rb : Bool) (hr : rb = true ↔ rightP E n) : Calls Tryz.prog 53 #[.slice A n c] w fun e w' => (∃ a b d er : Int, e = .returned (.tuple #[.int .i64 a, .int .i64 b, .int .i64 d, .int .i64 er]) ∧ decide (er = 1) = !rb) ∧ Below w.heap.size w w' := by
  have HT := Lib.hid hT
  have H40 := Lib.hid h40
  have S1 := Lib.hid fun w hT => tright A n c E h40 w hT rb hr
  cases rb with
  | false =>
    clear hT h40 hr
    go_enter Tryz.func53, Tryz.ntmps53
    go_wp2_with (first | (go_at_call 68; (with_reducible refine (S1.out _ ?_).mono ?_); (focus (exact HT.out)); rintro e w1 ⟨rfl, hb1⟩; obtain ⟨hc1, hf1⟩ := bcell hb1; have hz1 := hb1.size; (try simp at hz1); (try simp only [heap_drew, World.heap_drewN] at hz1); (try simp only [heap_drew, World.heap_drewN] at hc1); (try simp only [heap_drew, World.heap_drewN] at hf1); (try have hs1 := Nat.lt_of_succ_le hz1); (try have hs2 := Nat.lt_of_succ_lt hs1); (try have y0 : w.heap.size < w1.heap.size := by omega); (try have y1 : w.heap.size + 1 < w1.heap.size := by omega); (try have y2 : w.heap.size + 2 < w1.heap.size := by omega)))
    refine bodyPost_ret (v := .tuple #[.int .i64 0, .int .i64 0, .int .i64 0, .int .i64 1]) (by simp [results, Tryz.results53, go_sem]) rfl ⟨⟨_, _, _, _, rfl, rfl⟩, ?_⟩
    assumption
  | true =>
    have HR := Lib.hid (hr.1 rfl)
    clear hT h40 hr
    go_enter Tryz.func53, Tryz.ntmps53
    go_wp2_with (first | ((go_at_call 68; (with_reducible refine (S1.out _ ?_).mono ?_); (focus (exact HT.out)); rintro e w1 ⟨rfl, hb1⟩; obtain ⟨hc1, hf1⟩ := bcell hb1; have hz1 := hb1.size; (try simp at hz1); (try simp only [heap_drew, World.heap_drewN] at hz1); (try simp only [heap_drew, World.heap_drewN] at hc1); (try simp only [heap_drew, World.heap_drewN] at hf1); (try have hs1 := Nat.lt_of_succ_le hz1); (try have hs2 := Nat.lt_of_succ_lt hs1); (try have y0 : w.heap.size < w1.heap.size := by omega); (try have y1 : w.heap.size + 1 < w1.heap.size := by omega); (try have y2 : w.heap.size + 2 < w1.heap.size := by omega))
                          have HW0 := Lib.hid hb1
                          clear hb1 hc1 hf1))
    have HT1 := Lib.hid (HT.out.below (Nat.le_refl _) HW0.out)
    go_loopw [6, 7, 15] (fun u g v wr => ∃ (i : Nat) (s d : Int), Hid (i ≤ n) ∧ Hid (0 ≤ s ∧ s ≤ 1152921504606846976) ∧ u = .int .i64 s ∧ g = .int .i64 d ∧ v = .int .i64 i ∧ Hid (Below w.heap.size w wr)) (fun _ _ v _ => n - (intOf v).toNat)
    case atStart => exact ⟨0, 0, 0, Nat.zero_le _, (by show _ ∧ _; omega), rfl, rfl, rfl, HW0⟩
    case round =>
      obtain ⟨i, s, d, Hi, HS, rfl, rfl, rfl, HW⟩ := hrel
      by_cases hlt : i < n
      · have T0 : decide ((i : Int) < (n : Int)) = true := by simp <;> omega
        obtain ⟨i', hi'⟩ : ∃ z, z = i + 1 := ⟨_, rfl⟩
        have x0 : IntKind.i64.wrap ((i : Int) + 1) = (i' : Int) := by have := H40.out; rw [IntKind.wrap_i64]; omega
        have HI' : Hid (i' ≤ n) := by show i' ≤ n; omega
        have HMS : Hid (n - (intOf (Value.int .i64 (i' : Int))).toNat < n - (intOf (Value.int .i64 (i : Int))).toNat) := by show _ < _; simp [intOf]; omega
        have k0 : (0 : Int) ≤ (i : Int) := by omega
        have k1 : (i : Int) < (n : Int) := by omega
        have hbd := HR.out.bounds hlt
        obtain ⟨b, off, rfl, hb, c0, c1, c2, c3⟩ := (HT.out.below (Nat.le_refl _) HW.out).at hlt
        obtain ⟨tt, htt⟩ : ∃ z, z = E.Tot i := ⟨_, rfl⟩
        rw [← htt] at c2 hbd
        obtain ⟨s2, hs2⟩ : ∃ z, z = s + tt := ⟨_, rfl⟩
        have x1 : IntKind.i64.wrap (s + tt) = s2 := by have := HS.out; rw [← hs2, IntKind.wrap_i64]; omega
        by_cases hg : 1152921504606846976 < s2
        · have t1 : decide ((1152921504606846976 : Int) < s2) = true := decide_eq_true hg
          clear hi' hlt hg hbd htt hs2
          go_wp2_with fail
          refine bodyPost_ret (v := .tuple #[.int .i64 0, .int .i64 0, .int .i64 0, .int .i64 5]) (by simp [results, Tryz.results53, go_sem]) rfl ⟨⟨_, _, _, _, rfl, rfl⟩, ?_⟩
          have := HW.out
          (repeat' (first | assumption | exact Below.refl _ _ | exact Below.size (by assumption) | (refine Below.setCell ?_ ?_ _) | (refine Below.alloc ?_ ?_ _) | (refine Below.drew ?_) | (refine below_drewN ?_ _) | (refine Below.trans ?_ (Below.mono ‹Below _ _ _› ?_)) | omega | (simp; done) | (simp; omega) | (simp at *; omega)))
        · have t1 : decide ((1152921504606846976 : Int) < s2) = false := decide_eq_false hg
          have HS2 : Hid (0 ≤ s2 ∧ s2 ≤ 1152921504606846976) := by show _ ∧ _; have := HS.out; omega
          clear hi' hlt hg hbd htt hs2
          go_wp2_with fail
          go_roundw
          case rel => exact ⟨i', s2, _, HI', HS2, rfl, rfl, rfl, by have := HW.out; (repeat' (first | assumption | exact Below.refl _ _ | exact Below.size (by assumption) | (refine Below.setCell ?_ ?_ _) | (refine Below.alloc ?_ ?_ _) | (refine Below.drew ?_) | (refine below_drewN ?_ _) | (refine Below.trans ?_ (Below.mono ‹Below _ _ _› ?_)) | omega | (simp; done) | (simp; omega) | (simp at *; omega)))⟩
          case measure => exact HMS.out
      · have hin : i = n := by have := Hi.out; omega
        have T0 : decide ((i : Int) < (n : Int)) = false := by simp <;> omega
        have T0' : decide (i < n) = false := decide_eq_false hlt
        clear hlt hin
        go_wp2_with fail
        refine bodyPost_ret (v := .tuple #[.int .i64 n, .int .i64 s, .int .i64 d, .int .i64 0]) (by simp [results, Tryz.results53, go_sem]) rfl ⟨⟨_, _, _, _, rfl, rfl⟩, ?_⟩
        exact HW.out
end Go.Proofs.YtigocjhmgmhocaaGreatDoor

/- permit.Text where it refuses; slices.Equal of permits. -/
import Derived.Test.YtigocjhmgmhocaaGreatDoorPxT
namespace Go.Proofs.YtigocjhmgmhocaaGreatDoor
open Go.RowKit Go.Shelf
set_option linter.unusedVariables false
set_option linter.unusedSimpArgs false

theorem txt_arg (A : Option Addr) (n c : Nat) (P : Pms) (w : World) (hn : n ≤ 2000) (hP : PmS w A n P) (hbad : ∃ k, k < n ∧ ¬ okP (P.at k)) :
    Calls Tryz.prog 8 #[.slice A n c] w fun e w' => e = .returned (.tuple #[.string ⟨#[]⟩, .int .i64 1]) ∧ Below w.heap.size w w' := by
  have ST := Lib.hid (has_xinv A n c P w hn hP true ⟨fun _ => by
    obtain ⟨j, hj, hb⟩ := hbad
    refine ⟨j, hj, ?_⟩
    have h1 : validB (P.Nm j) (P.Nd j) (P.Ev j) (P.Vol j) (P.Tot j) = false := by simpa [okP, Pms.at] using hb
    show (!_) = true
    rw [h1]; rfl, fun _ => rfl⟩)
  clear hn hP hbad
  go_enter Tryz.func8, Tryz.ntmps8
  go_wp2_with (first
    | (go_at_call 6
       with_reducible refine (ST.out).mono ?_
       rintro e w1 ⟨rfl, hb1⟩
       have HB1 := Lib.hid hb1
       clear hb1))
  go_ret2
  exact ⟨rfl, HB1.out⟩
theorem txt_full (A : Option Addr) (n c : Nat) (P : Pms) (w : World) (hn : n ≤ 2000) (hn2 : 1000 < n) (hP : PmS w A n P) (hok : ∀ k, k < n → okP (P.at k)) :
    Calls Tryz.prog 8 #[.slice A n c] w fun e w' => e = .returned (.tuple #[.string ⟨#[]⟩, .int .i64 4]) ∧ Below w.heap.size w w' := by
  have ST := Lib.hid (has_xinv A n c P w hn hP false ⟨fun h => (by cases h), fun ⟨j, hj, hb⟩ => by
    have h1 : validB (P.Nm j) (P.Nd j) (P.Ev j) (P.Vol j) (P.Tot j) = true := hok j hj
    have hb' : (!_) = true := hb
    rw [h1] at hb'; cases hb'⟩)
  have T1 : decide ((1000 : Int) < (n : Int)) = true := decide_eq_true (by omega)
  have T1' : decide (1000 < n) = true := decide_eq_true (by omega)
  clear hn hP hok hn2
  go_enter Tryz.func8, Tryz.ntmps8
  go_wp2_with (first
    | (go_at_call 6
       with_reducible refine (ST.out).mono ?_
       rintro e w1 ⟨rfl, hb1⟩
       have HB1 := Lib.hid hb1
       clear hb1))
  go_ret2
  exact ⟨rfl, HB1.out⟩
set_option maxRecDepth 100000 in
set_option maxHeartbeats 4000000 in
theorem pequal (A B : Option Addr) (N c d : Nat) (P Q : Pms) (w : World) (hA : PmIn w A N P) (hB : PmIn w B N Q) (he : ∀ k, k < N → P.at k = Q.at k) :
    Calls Tryz.prog 14 #[.slice A N c, .slice B N d] w fun e w' => e = .returned (.bool true) ∧ Below w.heap.size w w' := by
  have HA := Lib.hid hA
  have HB := Lib.hid hB
  have HEQ := Lib.hid he
  have HNB : Hid (N ≤ 9223372036854775807) := by show N ≤ _; have := hA.1; omega
  clear hA hB he
  go_enter Tryz.func14, Tryz.ntmps14
  go_wp2_with fail
  go_loopw [13] (fun v wr => ∃ i : Nat, Hid (i ≤ N) ∧ v = .int .i64 i ∧ Hid (Below w.heap.size w wr)) (fun v _ => N - (RowKit.intOf v).toNat)
  case atStart => exact ⟨0, Nat.zero_le _, rfl, Below.refl _ _⟩
  case round =>
    obtain ⟨i, Hi, rfl, HW⟩ := hrel
    by_cases hlt : i < N
    · have T0 : decide ((i : Int) < (N : Int)) = true := by simp <;> omega
      obtain ⟨i', hi'⟩ : ∃ z, z = i + 1 := ⟨_, rfl⟩
      have x0 : IntKind.i64.wrap ((i : Int) + 1) = (i' : Int) := by have := HNB.out; rw [IntKind.wrap_i64]; omega
      have HI' : Hid (i' ≤ N) := by show i' ≤ N; omega
      have HMS : Hid (N - (RowKit.intOf (Value.int .i64 (i' : Int))).toNat < N - (RowKit.intOf (Value.int .i64 (i : Int))).toNat) := by show _ < _; simp [RowKit.intOf]; omega
      have k0 : (0 : Int) ≤ (i : Int) := by omega
      have k1 : (i : Int) < (N : Int) := by omega
      obtain ⟨ba, oa, rfl, hba, a0, a1, a2, a3, a4⟩ := (HA.out.below (Nat.le_refl _) HW.out).at (k := i) hlt
      obtain ⟨bb, ob, rfl, hbb, b0, b1, b2, b3, b4⟩ := (HB.out.below (Nat.le_refl _) HW.out).at (k := i) hlt
      have h := HEQ.out i hlt
      unfold Pms.at at h
      simp only [Pmr.mk.injEq] at h
      obtain ⟨h0, h1, h2, h3, h4⟩ := h
      rw [← h0] at b0
      rw [← h1] at b1
      rw [← h2] at b2
      rw [← h3] at b3
      rw [← h4] at b4
      clear hi' hlt h0 h1 h2 h3 h4
      go_wp2_with fail
      go_quiet (fail)
      go_wp2_with fail
      go_roundw
      case rel => exact ⟨i', HI', rfl, by have := HW.out; (repeat' (first | assumption | exact Below.refl _ _ | exact Below.size (by assumption) | (refine Below.setCell ?_ ?_ _) | (refine Below.alloc ?_ ?_ _) | (refine Below.drew ?_) | (refine below_drewN ?_ _) | (refine Below.trans ?_ (Below.mono ‹Below _ _ _› ?_)) | omega | (simp; done) | (simp; omega) | (simp at *; omega)))⟩
      case measure => exact HMS.out
    · have hin : i = N := by have := Hi.out; omega
      have T0 : decide ((i : Int) < (N : Int)) = false := by simp <;> omega
      have T0' : decide (i < N) = false := decide_eq_false hlt
      clear hlt hin
      go_wp2_with fail
      go_ret
      exact ⟨rfl, HW.out⟩
end Go.Proofs.YtigocjhmgmhocaaGreatDoor

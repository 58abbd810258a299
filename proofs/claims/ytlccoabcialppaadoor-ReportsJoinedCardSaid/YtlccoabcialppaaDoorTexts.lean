/- The examples of the chapter hold; the walk of the law ReportsTexts. -/
import Derived.Test.YtlccoabcialppaaDoorAw
namespace Go.Proofs.YtlccoabcialppaaDoor
open Go.RowKit
set_option linter.unusedVariables false
set_option linter.unusedSimpArgs false

theorem aw_in (w : World) : StrIn (w.alloc (Obj.cells #[.string ⟨#[97]⟩, .string ⟨#[98, 98]⟩, .string ⟨#[99]⟩] 9)) (some ⟨w.heap.size, 0, none⟩) 3 awX := by
  refine ⟨by omega, .inr ⟨w.heap.size, 0, rfl, by simp, fun k hk => ?_⟩⟩
  have : k = 0 ∨ k = 1 ∨ k = 2 := by omega
  rcases this with rfl | rfl | rfl <;> simp [awX]
theorem aw_in2 (w : World) : StrIn (w.alloc (Obj.cells #[.string ⟨#[97, 32, 98, 98]⟩, .string ⟨#[99]⟩] 9)) (some ⟨w.heap.size, 0, none⟩) 2 (fun k => awR.getD k ByteArray.empty) := by
  refine ⟨by omega, .inr ⟨w.heap.size, 0, rfl, by simp, fun k hk => ?_⟩⟩
  have : k = 0 ∨ k = 1 := by omega
  rcases this with rfl | rfl <;> simp [awR]
set_option maxRecDepth 100000 in
set_option maxHeartbeats 2000000 in
theorem caw (w : World) (hE : Env w) : Calls Tryd.prog 5 #[] w fun e w' => e = .returned (.bool true) ∧ Below w.heap.size w w' := by
  have HE := Lib.hid hE
  have ST := Lib.hid fun (A : Option Addr) c w ht => trows A 3 c awX 4 (by omega) (fun i hi => by have := (aw_good i hi).2; omega) w ht
  have SR := Lib.hid fun w hE => tread_at (by decide) aw_read_is w hE
  have SE := Lib.hid fun (A B : Option Addr) (c d : Nat) w hA hB => sequal_same A B 2 c d (fun k => awR.getD k ByteArray.empty) w hA hB
  have b0 : Below w.heap.size w (w.alloc (Obj.cells #[.string ⟨#[97]⟩, .string ⟨#[98, 98]⟩, .string ⟨#[99]⟩] 9)) := by (repeat' (first | assumption | exact Below.refl _ _ | exact Below.size (by assumption) | (refine Below.setCell ?_ ?_ _) | (refine Below.alloc ?_ ?_ _) | (refine Below.drew ?_) | (refine below_drewN ?_ _) | (refine Below.trans ?_ (Below.mono ‹Below _ _ _› ?_)) | omega | (simp; done) | (simp; omega) | (simp at *; omega)))
  have B0 := Lib.hid b0
  clear hE b0
  unfold awS awL at SR
  go_enter Tryd.func5, Tryd.ntmps5
  go_wp2_with (first
    | (go_at_call 10
       with_reducible refine (ST.out _ _ _ (aw_in w)).mono ?_
       rintro e w1 ⟨R, er, A1, c1, N1, hN, hR, rfl, hS, hb, _⟩
       obtain ⟨rfl, rfl⟩ := hR.uniq aw_rows_is
       obtain rfl : N1 = 2 := hN.trans rfl
       have HW1 := Lib.hid (below_step B0.out hb)
       have HS1 := Lib.hid hS
       clear hN hR hS hb)
    | (go_at_call 8
       with_reducible refine (SR.out _ ?_).mono ?_
       focus (exact HE.out.below HW1.out)
       rintro e w2 ⟨rfl, hb2⟩
       have HW2 := Lib.hid (below_step HW1.out hb2)
       have HS2 := Lib.hid (HS1.out.below (Nat.le_refl _) hb2)
       clear hb2)
    | (go_at_call 12
       with_reducible refine (SE.out _ _ _ _ _ ?_ ?_).mono ?_
       focus (exact HS2.out.below (Nat.le_refl _) (by (repeat' (first | assumption | exact Below.refl _ _ | exact Below.size (by assumption) | (refine Below.setCell ?_ ?_ _) | (refine Below.alloc ?_ ?_ _) | (refine Below.drew ?_) | (refine below_drewN ?_ _) | (refine Below.trans ?_ (Below.mono ‹Below _ _ _› ?_)) | omega | (simp; done) | (simp; omega) | (simp at *; omega)))))
       focus (exact aw_in2 w2)
       rintro e w3 ⟨rfl, hb3⟩
       have HW3 := Lib.hid (below_step (HW2.out.alloc HW2.out.size (Obj.cells #[.string ⟨#[97, 32, 98, 98]⟩, .string ⟨#[99]⟩] 9)) hb3)
       clear hb3))
  go_ret
  exact ⟨by simp, HW3.out⟩
set_option maxRecDepth 100000 in
set_option maxHeartbeats 4000000 in
theorem texts_walk (s : ByteArray) (A : Option Addr) (n c : Nat) (X : Nat → ByteArray) (W : Int) (w : World) (hE : Env w) (hT : StrIn w A n X) :
    Calls Tryd.prog 3 #[.string s, .slice A n c, .int .i64 W] w fun e w' => e = .returned (.bool true) ∧ Below w.heap.size w w' := by
  have HE := Lib.hid hE
  have HT := Lib.hid hT
  have SA := Lib.hid fun w hE => caw w hE
  by_cases h6 : 600 < s.size
  · have t1 : decide ((600 : Int) < (s.size : Int)) = true := decide_eq_true (by omega)
    have t1' : decide (600 < s.size) = true := decide_eq_true h6
    clear h6 hE hT
    go_enter Tryd.func3, Tryd.ntmps3
    go_wp2_with (first | ((go_at_call 5; (with_reducible refine (SA.out _ ?_).mono ?_); (focus (exact HE.out)); rintro e w1 ⟨rfl, hb1⟩; obtain ⟨hc1, hf1⟩ := bcell hb1; have hz1 := hb1.size; (try simp at hz1); (try simp only [heap_drew, World.heap_drewN] at hz1); (try simp only [heap_drew, World.heap_drewN] at hc1); (try simp only [heap_drew, World.heap_drewN] at hf1); (try have hs1 := Nat.lt_of_succ_le hz1); (try have hs2 := Nat.lt_of_succ_lt hs1); (try have y0 : w.heap.size < w1.heap.size := by omega); (try have y1 : w.heap.size + 1 < w1.heap.size := by omega); (try have y2 : w.heap.size + 2 < w1.heap.size := by omega))))
    go_ret
    refine ⟨rfl, ?_⟩
    (repeat' (first | assumption | exact Below.refl _ _ | exact Below.size (by assumption) | (refine Below.setCell ?_ ?_ _) | (refine Below.alloc ?_ ?_ _) | (refine Below.drew ?_) | (refine below_drewN ?_ _) | (refine Below.trans ?_ (Below.mono ‹Below _ _ _› ?_)) | omega | (simp; done) | (simp; omega) | (simp at *; omega)))
  · have t1 : decide ((600 : Int) < (s.size : Int)) = false := decide_eq_false (by omega)
    have t1' : decide (600 < s.size) = false := decide_eq_false h6
    by_cases h4 : 40 < n
    · have t2 : decide ((40 : Int) < (n : Int)) = true := decide_eq_true (by omega)
      have t2' : decide (40 < n) = true := decide_eq_true h4
      clear h6 h4 hE hT
      go_enter Tryd.func3, Tryd.ntmps3
      go_wp2_with (first | ((go_at_call 5; (with_reducible refine (SA.out _ ?_).mono ?_); (focus (exact HE.out)); rintro e w1 ⟨rfl, hb1⟩; obtain ⟨hc1, hf1⟩ := bcell hb1; have hz1 := hb1.size; (try simp at hz1); (try simp only [heap_drew, World.heap_drewN] at hz1); (try simp only [heap_drew, World.heap_drewN] at hc1); (try simp only [heap_drew, World.heap_drewN] at hf1); (try have hs1 := Nat.lt_of_succ_le hz1); (try have hs2 := Nat.lt_of_succ_lt hs1); (try have y0 : w.heap.size < w1.heap.size := by omega); (try have y1 : w.heap.size + 1 < w1.heap.size := by omega); (try have y2 : w.heap.size + 2 < w1.heap.size := by omega))))
      go_ret
      refine ⟨rfl, ?_⟩
      (repeat' (first | assumption | exact Below.refl _ _ | exact Below.size (by assumption) | (refine Below.setCell ?_ ?_ _) | (refine Below.alloc ?_ ?_ _) | (refine Below.drew ?_) | (refine below_drewN ?_ _) | (refine Below.trans ?_ (Below.mono ‹Below _ _ _› ?_)) | omega | (simp; done) | (simp; omega) | (simp at *; omega)))
    · have t2 : decide ((40 : Int) < (n : Int)) = false := decide_eq_false (by omega)
      have t2' : decide (40 < n) = false := decide_eq_false h4
      by_cases hl : ∃ j, j < n ∧ decide (600 < (X j).size) = true
      · have SL := Lib.hid fun w ht => has_longTexts A n c X w (by omega) ht true (by simp only [true_iff]; exact hl)
        clear h6 h4 hE hT hl
        go_enter Tryd.func3, Tryd.ntmps3
        go_wp2_with (first
          | ((go_at_call 5; (with_reducible refine (SA.out _ ?_).mono ?_); (focus (exact HE.out)); rintro e w1 ⟨rfl, hb1⟩; obtain ⟨hc1, hf1⟩ := bcell hb1; have hz1 := hb1.size; (try simp at hz1); (try simp only [heap_drew, World.heap_drewN] at hz1); (try simp only [heap_drew, World.heap_drewN] at hc1); (try simp only [heap_drew, World.heap_drewN] at hf1); (try have hs1 := Nat.lt_of_succ_le hz1); (try have hs2 := Nat.lt_of_succ_lt hs1); (try have y0 : w.heap.size < w1.heap.size := by omega); (try have y1 : w.heap.size + 1 < w1.heap.size := by omega); (try have y2 : w.heap.size + 2 < w1.heap.size := by omega))
             have HW1 := Lib.hid hb1
             clear hc1 hf1 hb1)
          | (go_at_call 6
             with_reducible refine (SL.out _ ?_).mono ?_
             focus (exact HT.out.below (Nat.le_refl _) HW1.out)
             rintro e w2 ⟨rfl, hb2⟩
             have HW2 := Lib.hid (below_step HW1.out hb2)
             clear hb2))
        go_ret
        exact ⟨rfl, HW2.out⟩
      · have hX : ∀ i, i < n → (X i).size ≤ 600 := fun i hi => by
          apply Classical.byContradiction
          intro h
          exact hl ⟨i, hi, decide_eq_true (by omega)⟩
        have SL := Lib.hid fun w ht => has_longTexts A n c X w (by omega) ht false ⟨fun h => (by cases h), fun h => absurd h hl⟩
        obtain ⟨l, m, er, hrd, hrc⟩ := tread s (by omega)
        have S1 := Lib.hid hrc
        have S2 := Lib.hid fun w => rread_at (by omega) hrd w
        have S3 := Lib.hid fun w ht => trows A n c X W (by omega) hX w ht
        have S4 := Lib.hid fun w ht => rrows A n c X W (by omega) hX w ht
        clear h6 h4 hE hT hl hrc hrd hX
        go_enter Tryd.func3, Tryd.ntmps3
        go_wp2_with (first
          | ((go_at_call 5; (with_reducible refine (SA.out _ ?_).mono ?_); (focus (exact HE.out)); rintro e w1 ⟨rfl, hb1⟩; obtain ⟨hc1, hf1⟩ := bcell hb1; have hz1 := hb1.size; (try simp at hz1); (try simp only [heap_drew, World.heap_drewN] at hz1); (try simp only [heap_drew, World.heap_drewN] at hc1); (try simp only [heap_drew, World.heap_drewN] at hf1); (try have hs1 := Nat.lt_of_succ_le hz1); (try have hs2 := Nat.lt_of_succ_lt hs1); (try have y0 : w.heap.size < w1.heap.size := by omega); (try have y1 : w.heap.size + 1 < w1.heap.size := by omega); (try have y2 : w.heap.size + 2 < w1.heap.size := by omega))
             have HW1 := Lib.hid hb1
             clear hc1 hf1 hb1)
          | (go_at_call 6
             with_reducible refine (SL.out _ ?_).mono ?_
             focus (exact HT.out.below (Nat.le_refl _) HW1.out)
             rintro e w2 ⟨rfl, hb2⟩
             have HW2 := Lib.hid (below_step HW1.out hb2)
             clear hb2)
          | (go_at_call 8
             with_reducible refine (S1.out _ ?_).mono ?_
             focus (exact HE.out.below HW2.out)
             rintro e w3 ⟨rfl, hb3⟩
             have HW3 := Lib.hid (below_step HW2.out hb3)
             clear hb3)
          | (go_at_call 9
             with_reducible refine (S2.out _).mono ?_
             rintro e w4 ⟨rfl, hb4⟩
             have HW4 := Lib.hid (below_step HW3.out hb4)
             clear hb4)
          | (go_at_call 10
             with_reducible refine (S3.out _ ?_).mono ?_
             focus (exact HT.out.below (Nat.le_refl _) HW4.out)
             rintro e w5 ⟨R, e5, A5, c5, N5, hN5, hR5, rfl, hS5, hb5, _⟩
             have HW5 := Lib.hid (below_step HW4.out hb5)
             have HS5 := Lib.hid hS5
             have HR5 := Lib.hid hR5
             have HN5 := Lib.hid hN5
             clear hN5 hR5 hS5 hb5)
          | (go_at_call 11
             with_reducible refine (S4.out _ ?_).mono ?_
             focus (exact HT.out.below (Nat.le_refl _) HW5.out)
             rintro e w6 ⟨R', e6, A6, c6, N6, hN6, hR6, rfl, hS6, hb6, _⟩
             obtain ⟨rfl, rfl⟩ := hR6.uniq HR5.out
             obtain rfl : N6 = N5 := hN6.trans HN5.out.symm
             have HW6 := Lib.hid (below_step HW5.out hb6)
             have HS6 := Lib.hid hS6
             have HT6 := Lib.hid (HS5.out.below (Nat.le_refl _) hb6)
             have SQ := Lib.hid (fun w hA hB => sequal_same A5 A6 N6 c5 c6 (fun k => R'.getD k ByteArray.empty) w hA hB)
             clear hN6 hR6 hS6 hb6)
          | (go_at_call 12
             with_reducible refine (SQ.out _ ?_ ?_).mono ?_
             focus (exact HT6.out)
             focus (exact HS6.out)
             rintro e w7 ⟨rfl, hb7⟩
             have HW7 := Lib.hid (below_step HW6.out hb7)
             clear hb7))
        go_ret
        exact ⟨by simp, HW7.out⟩
end Go.Proofs.YtlccoabcialppaaDoor

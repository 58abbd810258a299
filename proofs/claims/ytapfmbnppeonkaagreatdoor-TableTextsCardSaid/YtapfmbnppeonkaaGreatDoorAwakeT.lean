/- The examples of the chapter, which each law of it checks first. -/
import Derived.Test.YtapfmbnppeonkaaGreatDoorExam
import Derived.Test.YtapfmbnppeonkaaGreatDoorMgA
namespace Go.Proofs.YtapfmbnppeonkaaGreatDoor
open Go.RowKit
set_option linter.unusedVariables false
set_option linter.unusedSimpArgs false

theorem x_example (w : World) : Calls Tryz.prog 12 #[] w fun e w' => e = .returned (.slice (some ⟨w.heap.size, 0, none⟩) 3 3) ∧ TabAt w' w.heap.size 0 3 eX eY ∧ Below w.heap.size w w' := by
  go_enter Tryz.func12, Tryz.ntmps12
  go_wp2_with fail
  go_ret
  refine ⟨rfl, ⟨by simp, fun k hk => ?_⟩, ?_⟩
  · have : k = 0 ∨ k = 1 ∨ k = 2 := by omega
    rcases this with rfl | rfl | rfl <;> exact ⟨by simp [go_sem, eX], by simp [go_sem, eY]⟩
  · (repeat' (first | assumption | exact Below.refl _ _ | exact Below.size (by assumption) | (refine Below.setCell ?_ ?_ _) | (refine Below.alloc ?_ ?_ _) | (refine Below.drew ?_) | (refine below_drewN ?_ _) | (refine Below.trans ?_ (Below.mono ‹Below _ _ _› ?_)) | omega | (simp; done) | (simp; omega) | (simp at *; omega)))
theorem x_at (g : Nat) (w : World) (ht : TabAt w g 0 3 eX eY) : Calls Tryz.prog 13 #[.slice (some ⟨g, 0, none⟩) 3 3, .int .i64 5] w fun e w' => e = .returned (.tuple #[.agg #[.int .i64 5, .int .i64 2], .int .i64 0]) ∧ Below w.heap.size w w' := by
  obtain ⟨d, hd, hP⟩ := tpiece_den g 0 2 3 eX eY 5 e_ok
  have e : d = 10 := (hd.2.2.2.2 (by rw [er5]; decide)).trans ed5
  subst e
  exact tat g 0 2 3 10 5 eX eY 5 5 2 0 e_ok w ht (by omega) (by omega) er5 (by omega) (by rw [ev5]; exact e_at) hP
theorem x_over (g : Nat) (w : World) (ht : TabAt w g 0 3 eX eY) : Calls Tryz.prog 14 #[.slice (some ⟨g, 0, none⟩) 3 3, .agg #[.int .i64 5, .int .i64 11]] w fun e w' => e = .returned (.tuple #[.agg #[.int .i64 2, .int .i64 7], .int .i64 0]) ∧ Below w.heap.size w w' := by
  have := tover g 0 2 3 eX eY 5 11 (by omega) e_ok w ht
  rw [ev5, ec11] at this
  exact this
theorem x_least (g : Nat) (w : World) (ht : TabAt w g 0 3 eX eY) : Calls Tryz.prog 15 #[.slice (some ⟨g, 0, none⟩) 3 3, .int .i64 6] w fun e w' => e = .returned (.tuple #[.int .i64 11, .int .i64 0]) ∧ Below w.heap.size w w' := by
  obtain ⟨v, e, h, hc⟩ := least_t 2 eX eY 6 e_ok
  obtain ⟨rfl, rfl⟩ := e_least h
  exact hc g 0 3 w ht
theorem x_most (g : Nat) (w : World) (ht : TabAt w g 0 3 eX eY) : Calls Tryz.prog 16 #[.slice (some ⟨g, 0, none⟩) 3 3, .int .i64 6] w fun e w' => e = .returned (.tuple #[.int .i64 10, .int .i64 0]) ∧ Below w.heap.size w w' := by
  obtain ⟨v, e, h, hc⟩ := most_t 2 eX eY 6 e_ok
  obtain ⟨rfl, rfl⟩ := e_most h
  exact hc g 0 3 w ht
theorem x_add (g g2 : Nat) (w : World) (ht : TabAt w g 0 3 eX eY) (ht2 : TabAt w g2 0 1 fX fY) : Calls Tryz.prog 17 #[.slice (some ⟨g, 0, none⟩) 3 3, .slice (some ⟨g2, 0, none⟩) 1 1] w fun e w' =>
    ∃ h cap : Nat, e = .returned (.tuple #[.slice (some ⟨h, 0, none⟩) 4 cap, .int .i64 0]) ∧ TabAt w' h 0 4 (fun k => pL.getD k 0) (fun k => qL.getD k 0) ∧ Below w.heap.size w w' := by
  refine (tadd g 0 3 2 3 g2 0 1 0 1 4 eX eY fX fY pL e_addP rfl w rfl rfl e_ok f_ok ht ht2).mono ?_
  rintro e w' (⟨h, _⟩ | ⟨_, ⟨k, hk, hq⟩, _⟩ | ⟨_, _, h, cap, rfl, _, hT, hb⟩)
  · omega
  · refine absurd ?_ hq
    show inB (addY eX eY 2 fX fY 0 (pL.getD k 0))
    rw [e_addY k hk]
    have : k = 0 ∨ k = 1 ∨ k = 2 ∨ k = 3 := by omega
    rcases this with rfl | rfl | rfl | rfl <;> (unfold inB; decide)
  · exact ⟨h, cap, rfl, hT.congr (fun _ _ => rfl) (fun k hk => e_addY k hk), hb⟩
theorem x_cut (g : Nat) (w : World) (ht : TabAt w g 0 3 eX eY) : Calls Tryz.prog 18 #[.slice (some ⟨g, 0, none⟩) 3 3, .int .i64 5, .int .i64 12] w fun e w' =>
    ∃ h cap : Nat, e = .returned (.tuple #[.slice (some ⟨h, 0, none⟩) 3 cap, .int .i64 0]) ∧ TabAt w' h 0 3 (fun k => ([5, 10, 12] : List Int).getD k 0) (fun k => ([2, 5, 9] : List Int).getD k 0) ∧ Below w.heap.size w w' := by
  refine (tcut_in g 0 3 2 3 eX eY 5 12 rfl e_ok (by unfold inB; decide) (by unfold inB; decide) (by omega) w ht).mono ?_
  rw [e_cut]
  rintro e w' (⟨_, h, cap, rfl, _, hT, hb⟩ | ⟨h, _⟩)
  · refine ⟨h, cap, rfl, hT.congr (fun k hk => ?_) (fun k hk => ?_), hb⟩
    · have hk' : k < 3 := hk
      have : k = 0 ∨ k = 1 ∨ k = 2 := by omega
      rcases this with rfl | rfl | rfl <;> rfl
    · have hk' : k < 3 := hk
      have : k = 0 ∨ k = 1 ∨ k = 2 := by omega
      rcases this with rfl | rfl | rfl <;> rfl
  · exact absurd h (by decide)
theorem x_text1 (g c : Nat) (w : World) (ht : TabAt w g 0 4 (fun k => pL.getD k 0) (fun k => qL.getD k 0)) : Calls Tryz.prog 11 #[.slice (some ⟨g, 0, none⟩) 4 c] w fun e w' => e = .returned (.string ⟨#[48, 58, 49, 32, 53, 58, 51, 32, 49, 48, 58, 54, 32, 50, 48, 58, 50, 54]⟩) ∧ Below w.heap.size w w' := by
  have := e_text g c 4 pL qL rfl rfl (by omega) (by decide) (by decide) w ht
  rw [e_t1] at this
  exact this
theorem x_text2 (g c : Nat) (w : World) (ht : TabAt w g 0 3 (fun k => ([5, 10, 12] : List Int).getD k 0) (fun k => ([2, 5, 9] : List Int).getD k 0)) : Calls Tryz.prog 11 #[.slice (some ⟨g, 0, none⟩) 3 c] w fun e w' => e = .returned (.string ⟨#[53, 58, 50, 32, 49, 48, 58, 53, 32, 49, 50, 58, 57]⟩) ∧ Below w.heap.size w w' := by
  have := e_text g c 3 [5, 10, 12] [2, 5, 9] rfl rfl (by omega) (by decide) (by decide) w ht
  rw [e_t2] at this
  exact this

/-- What stays while the examples are checked. -/
def AwMem (w wk : World) (g G2 G4 : Nat) : Prop := TabAt wk g 0 3 eX eY ∧ Blk wk G2 38 #[.int .i64 5, .int .i64 2] ∧ Blk wk G4 42 #[.int .i64 2, .int .i64 7] ∧ Below w.heap.size w wk
theorem AwMem.call {w wk w' : World} {g G2 G4 : Nat} (h : AwMem w wk g G2 G4) (hb : Below wk.heap.size wk w') : AwMem w w' g G2 G4 :=
  ⟨h.1.below hb h.1.1, h.2.1.call hb, h.2.2.1.call hb, h.2.2.2.trans (hb.mono h.2.2.2.size)⟩
theorem AwMem.tab {w wk : World} {g G2 G4 : Nat} (h : AwMem w wk g G2 G4) : TabAt wk g 0 3 eX eY := h.1
set_option maxRecDepth 100000 in
set_option maxHeartbeats 4000000 in
theorem cawake (w : World) : Calls Tryz.prog 4 #[] w fun e w' => e = .returned (.bool true) ∧ Below w.heap.size w w' := by
  go_enter Tryz.func4, Tryz.ntmps4
  go_upto_region 3 with (first
    | (go_at_call 12
       with_reducible refine (x_example _).mono ?_
       rintro e w1 ⟨rfl, hT1, hb1⟩
       have HT1 := Lib.hid hT1
       have HB1 := Lib.hid hb1
       clear hT1 hb1)
    | (go_at_call 13
       with_reducible refine (x_at _ _ HT1.out).mono ?_
       rintro e w2 ⟨rfl, hb2⟩
       have HT2 := Lib.hid (HT1.out.below hb2 HT1.out.1)
       have HB2 := Lib.hid (HB1.out.trans (hb2.mono HB1.out.size))
       clear hb2))
  have hk2 : Blk (w2.alloc (Obj.cells #[.int .i64 5, .int .i64 2] 38)) w2.heap.size 38 #[.int .i64 5, .int .i64 2] := Blk.new _ _ _
  have hT2' : TabAt (w2.alloc (Obj.cells #[.int .i64 5, .int .i64 2] 38)) w.heap.size 0 3 eX eY := HT2.out.below (B := w2.heap.size) (by (repeat' (first | assumption | exact Below.refl _ _ | exact Below.size (by assumption) | (refine Below.setCell ?_ ?_ _) | (refine Below.alloc ?_ ?_ _) | (refine Below.drew ?_) | (refine below_drewN ?_ _) | (refine Below.trans ?_ (Below.mono ‹Below _ _ _› ?_)) | omega | (simp; done) | (simp; omega) | (simp at *; omega)))) HT2.out.1
  have hB2' : Below w.heap.size w (w2.alloc (Obj.cells #[.int .i64 5, .int .i64 2] 38)) := HB2.out.alloc HB2.out.size _
  generalize w2.alloc (Obj.cells #[.int .i64 5, .int .i64 2] 38) = w2' at hk2 hT2' hB2' ⊢
  generalize w2.heap.size = G2 at hk2 ⊢
  have HK2 := Lib.hid hk2
  have HT2' := Lib.hid hT2'
  have HB2' := Lib.hid hB2'
  clear hk2 hT2' hB2' HT2 HB2 HT1 HB1
  go_upto_region 4 with (first
    | (go_at_call 14
       with_reducible refine (x_over _ _ HT2'.out).mono ?_
       rintro e w3 ⟨rfl, hb3⟩
       have HT3 := Lib.hid (HT2'.out.below hb3 HT2'.out.1)
       have HK3 := Lib.hid (HK2.out.call hb3)
       have HB3 := Lib.hid (HB2'.out.trans (hb3.mono HB2'.out.size))
       clear hb3))
  have hM3 : AwMem w (w3.alloc (Obj.cells #[.int .i64 2, .int .i64 7] 42)) w.heap.size G2 w3.heap.size := ⟨HT3.out.below (B := w3.heap.size) (by (repeat' (first | assumption | exact Below.refl _ _ | exact Below.size (by assumption) | (refine Below.setCell ?_ ?_ _) | (refine Below.alloc ?_ ?_ _) | (refine Below.drew ?_) | (refine below_drewN ?_ _) | (refine Below.trans ?_ (Below.mono ‹Below _ _ _› ?_)) | omega | (simp; done) | (simp; omega) | (simp at *; omega)))) HT3.out.1, HK3.out.alloc _, Blk.new _ _ _, HB3.out.alloc HB3.out.size _⟩
  generalize w3.alloc (Obj.cells #[.int .i64 2, .int .i64 7] 42) = w3' at hM3 ⊢
  generalize w3.heap.size = G4 at hM3 ⊢
  have HM3 := Lib.hid hM3
  clear hM3 HT3 HK3 HB3 HK2 HT2' HB2'
  go_upto_region 6 with (first
    | (go_at_call 15
       with_reducible refine (x_least _ _ HM3.out.tab).mono ?_
       rintro e w4 ⟨rfl, hb4⟩
       have HM4 := Lib.hid (HM3.out.call hb4)
       clear hb4)
    | (go_at_call 16
       with_reducible refine (x_most _ _ HM4.out.tab).mono ?_
       rintro e w5 ⟨rfl, hb5⟩
       have HM5 := Lib.hid (HM4.out.call hb5)
       clear hb5))
  have hF : TabAt (w5.alloc (Obj.cells #[.int .i64 5, .int .i64 1] 49)) w5.heap.size 0 1 fX fY := ⟨by simp, fun k hk => by
    obtain rfl : k = 0 := by omega
    exact ⟨by simp [fX], by simp [fY]⟩⟩
  have HF := Lib.hid hF
  have HM5' := Lib.hid (HM5.out.call (w' := w5.alloc (Obj.cells #[.int .i64 5, .int .i64 1] 49)) (by (repeat' (first | assumption | exact Below.refl _ _ | exact Below.size (by assumption) | (refine Below.setCell ?_ ?_ _) | (refine Below.alloc ?_ ?_ _) | (refine Below.drew ?_) | (refine below_drewN ?_ _) | (refine Below.trans ?_ (Below.mono ‹Below _ _ _› ?_)) | omega | (simp; done) | (simp; omega) | (simp at *; omega)))))
  clear hF
  go_upto_region 8 with (first
    | (go_at_call 17
       with_reducible refine (x_add _ _ _ HM5'.out.tab HF.out).mono ?_
       rintro e w6 ⟨hA, capA, rfl, hTA, hb6⟩
       have HM6 := Lib.hid (HM5'.out.call hb6)
       have HTA := Lib.hid hTA
       clear hb6 hTA)
    | (go_at_call 18
       with_reducible refine (x_cut _ _ HM6.out.tab).mono ?_
       rintro e w7 ⟨hC, capC, rfl, hTC, hb7⟩
       have HM7 := Lib.hid (HM6.out.call hb7)
       have HTA7 := Lib.hid (HTA.out.below hb7 HTA.out.1)
       have HTC := Lib.hid hTC
       clear hb7 hTC))
  have c0 := HM7.out.2.1.cell 0
  have c1 := HM7.out.2.1.cell 1
  have c2 := HM7.out.2.2.1.cell 0
  have c3 := HM7.out.2.2.1.cell 1
  simp only [List.getElem?_toArray, List.getElem?_cons_succ, List.getElem?_cons_zero] at c0 c1 c2 c3
  go_wp2_with (first
    | (go_at_call 11
       with_reducible refine (x_text1 _ _ _ HTA7.out).mono ?_
       rintro e w8 ⟨rfl, hb8⟩
       have HTC8 := Lib.hid (HTC.out.below hb8 HTC.out.1)
       have HM8 := Lib.hid (HM7.out.call hb8)
       clear hb8)
    | (go_at_call 11
       with_reducible refine (x_text2 _ _ _ HTC8.out).mono ?_
       rintro e w9 ⟨rfl, hb9⟩
       have HM9 := Lib.hid (HM8.out.call hb9)
       clear hb9))
  go_ret
  exact ⟨by simp, HM9.out.2.2.2⟩
end Go.Proofs.YtapfmbnppeonkaaGreatDoor

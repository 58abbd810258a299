/- The reference's line. -/
import Derived.Test.YtigocjhmgmhocaaGreatDoorRpN
namespace Go.Proofs.YtigocjhmgmhocaaGreatDoor
open Go.RowKit
set_option linter.unusedVariables false
set_option linter.unusedSimpArgs false

theorem rnumD (s : ByteArray) (hs : s.size ≤ 100000) : ∃ (v : Int) (f : Bool), rnV s v f ∧ ∀ w : World, Calls Tryz.prog 50 #[.string s] w fun e w' => e = .returned (.tuple #[.int .i64 v, .bool f]) ∧ w = w' := by
  by_cases h : ∃ v, NumW s v
  · obtain ⟨v, hv⟩ := h
    refine ⟨v, true, ⟨fun _ => hv, fun h => (by cases h)⟩, fun w => (rnum s w hs).mono fun e w' hp => ?_⟩
    obtain ⟨⟨x, f, rfl, h1, h2⟩, rfl⟩ := hp
    cases f with
    | false => exact absurd hv ((h2 rfl).2 v)
    | true =>
      have e1 := (numw_digits (h1 rfl)).2.2.2.2
      have e2 := (numw_digits hv).2.2.2.2
      exact ⟨by rw [e1, e2], rfl⟩
  · refine ⟨0, false, ⟨fun h => (by cases h), fun _ => ⟨rfl, fun x hx => h ⟨x, hx⟩⟩⟩, fun w => (rnum s w hs).mono fun e w' hp => ?_⟩
    obtain ⟨⟨x, f, rfl, h1, h2⟩, rfl⟩ := hp
    cases f with
    | false => exact ⟨by rw [(h2 rfl).1], rfl⟩
    | true => exact absurd ⟨x, h1 rfl⟩ h
theorem words_wdcs (s : ByteArray) : wdcs 32 s = words s := by unfold wdcs words; rw [wdc_32]
theorem rsplit (s : ByteArray) (hs : s.size ≤ 5000) (X : Nat → ByteArray) (hX : X = fun k => (words s).getD k ByteArray.empty) (N : Nat) (hN : N = (words s).length) (w : World) : Calls Tryz.prog 31 #[.string s, .int .u8 32] w fun e w' => ∃ g cap : Nat, e = .returned (.slice (some ⟨g, 0, none⟩) N cap) ∧ StrAt w' g 0 N X ∧ Below w.heap.size w w' := by
  have h := rparts s hs 32 w
  rw [words_wdcs] at h
  subst hX hN
  exact h
set_option maxRecDepth 100000 in
set_option maxHeartbeats 4000000 in
theorem rline_bad (s : ByteArray) (hs : s.size ≤ 5000) (X : Nat → ByteArray) (hX : X = fun k => (words s).getD k ByteArray.empty) (N : Nat) (hN : N = (words s).length) (hb : N ≠ 5 ∨ (N = 5 ∧ (nameB (X 0).data.toList = false ∨ nameB (X 1).data.toList = false))) (hsz : ∀ k, (X k).size ≤ 100000) (w : World) :
    Calls Tryz.prog 32 #[.string s] w fun e w' => e = .returned (.tuple #[.agg #[.string ⟨#[]⟩, .string ⟨#[]⟩, .int .i64 0, .int .i64 0, .int .i64 0], .bool false]) ∧ Below w.heap.size w w' := by
  have SS := Lib.hid fun w => rsplit s hs X hX N hN w
  by_cases h5 : N = 5
  case neg =>
    have T0 : ((N : Int) == 5) = false := by simp <;> omega
    have T0' : decide (N = 5) = false := decide_eq_false h5
    have T0'' : (N == 5) = false := by simp [h5]
    have T1 : ((N : Int) != 5) = true := by simp <;> omega
    clear hb hs hX hN hsz
    go_enter Tryz.func32, Tryz.ntmps32
    go_wp2_with (first
      | (go_at_call 31
         with_reducible refine (SS.out _).mono ?_
         rintro e w1 ⟨g1, cap1, rfl, hst, hb1⟩
         have HST := Lib.hid hst
         have BZ1 := Lib.hid ((Blk.new w 26 #[.string ⟨#[]⟩, .string ⟨#[]⟩, .int .i64 0, .int .i64 0, .int .i64 0]).call hb1)
         have BW1 := Lib.hid (((Below.refl _ w).alloc (Nat.le_refl _) (.cells #[.string ⟨#[]⟩, .string ⟨#[]⟩, .int .i64 0, .int .i64 0, .int .i64 0] 26)).trans (hb1.mono (by simp)))
         obtain ⟨z0, z1, z2, z3, z4⟩ := perm_cells BZ1.out
         obtain ⟨f0, f1, f2, f3, f4⟩ := frozen5 BZ1.out
         have l1 := BZ1.out.lt
         clear hb1 hst))
    have HE5 := blk5_end (w := w) (a := .string ⟨#[]⟩) (b := .string ⟨#[]⟩) (c := .int .i64 0) (d := .int .i64 0) (e := .int .i64 0) BZ1.out rfl BW1.out
    obtain ⟨HE1, he2⟩ := HE5
    have HE2 := Lib.hid he2
    clear he2
    generalize (((((w1.setCell ⟨w.heap.size, 0, none⟩ (.string ⟨#[]⟩)).setCell ⟨w.heap.size, 1, none⟩ (.string ⟨#[]⟩)).setCell ⟨w.heap.size, 2, none⟩ (.int .i64 0)).setCell ⟨w.heap.size, 3, none⟩ (.int .i64 0)).setCell ⟨w.heap.size, 4, none⟩ (.int .i64 0)) = wq at HE1 HE2 ⊢
    obtain ⟨s0, s1, s2, s3, s4⟩ := perm_cells HE1
    refine bodyPost_ret (v := .tuple #[.agg #[.string ⟨#[]⟩, .string ⟨#[]⟩, .int .i64 0, .int .i64 0, .int .i64 0], .bool false]) (by simp [results, Tryz.results32, go_sem, s0, s1, s2, s3, s4]) rfl ⟨rfl, HE2.out⟩
  subst h5
  have m0 : (X 0).size ≤ maxLen := by have := hsz 0; unfold maxLen; omega
  have m1 : (X 1).size ≤ maxLen := by have := hsz 1; unfold maxLen; omega
  have sn0 := fun w => risname (X 0) m0 w
  have sn1 := fun w => risname (X 1) m1 w
  cases hv0 : nameB (X 0).data.toList with
  | false =>
    rw [hv0] at sn0
    have SN0 := Lib.hid sn0
    clear hb hN hs sn0 sn1 m0 m1 hsz hv0 hX
    go_enter Tryz.func32, Tryz.ntmps32
    go_wp2_with (first
      | (go_at_call 31
         with_reducible refine (SS.out _).mono ?_
         rintro e w1 ⟨g1, cap1, rfl, hst, hb1⟩
         have HST := Lib.hid hst
         have BZ1 := Lib.hid ((Blk.new w 26 #[.string ⟨#[]⟩, .string ⟨#[]⟩, .int .i64 0, .int .i64 0, .int .i64 0]).call hb1)
         have BW1 := Lib.hid (((Below.refl _ w).alloc (Nat.le_refl _) (.cells #[.string ⟨#[]⟩, .string ⟨#[]⟩, .int .i64 0, .int .i64 0, .int .i64 0] 26)).trans (hb1.mono (by simp)))
         obtain ⟨z0, z1, z2, z3, z4⟩ := perm_cells BZ1.out
         obtain ⟨f0, f1, f2, f3, f4⟩ := frozen5 BZ1.out
         have l1 := BZ1.out.lt
         have zw0 := (HST.out.2 0 (by omega))
         simp only [Nat.zero_add] at zw0
         have zw1 := (HST.out.2 1 (by omega))
         simp only [Nat.zero_add] at zw1
         clear hb1 hst)
      | (go_at_call 25
         with_reducible refine (SN0.out _).mono ?_
         rintro e w' ⟨rfl, rfl⟩))
    have HE5 := blk5_end (w := w) (a := .string ⟨#[]⟩) (b := .string ⟨#[]⟩) (c := .int .i64 0) (d := .int .i64 0) (e := .int .i64 0) BZ1.out rfl BW1.out
    obtain ⟨HE1, he2⟩ := HE5
    have HE2 := Lib.hid he2
    clear he2
    generalize (((((w1.setCell ⟨w.heap.size, 0, none⟩ (.string ⟨#[]⟩)).setCell ⟨w.heap.size, 1, none⟩ (.string ⟨#[]⟩)).setCell ⟨w.heap.size, 2, none⟩ (.int .i64 0)).setCell ⟨w.heap.size, 3, none⟩ (.int .i64 0)).setCell ⟨w.heap.size, 4, none⟩ (.int .i64 0)) = wq at HE1 HE2 ⊢
    obtain ⟨s0, s1, s2, s3, s4⟩ := perm_cells HE1
    refine bodyPost_ret (v := .tuple #[.agg #[.string ⟨#[]⟩, .string ⟨#[]⟩, .int .i64 0, .int .i64 0, .int .i64 0], .bool false]) (by simp [results, Tryz.results32, go_sem, s0, s1, s2, s3, s4]) rfl ⟨rfl, HE2.out⟩
  | true =>
    have hv1 : nameB (X 1).data.toList = false := by
      rcases hb with h | ⟨_, h | h⟩
      · exact absurd rfl h
      · rw [hv0] at h; cases h
      · exact h
    rw [hv0] at sn0
    rw [hv1] at sn1
    have SN0 := Lib.hid sn0
    have SN1 := Lib.hid sn1
    clear hb hN hs sn0 sn1 m0 m1 hsz hv0 hv1 hX
    go_enter Tryz.func32, Tryz.ntmps32
    go_wp2_with (first
      | (go_at_call 31
         with_reducible refine (SS.out _).mono ?_
         rintro e w1 ⟨g1, cap1, rfl, hst, hb1⟩
         have HST := Lib.hid hst
         have BZ1 := Lib.hid ((Blk.new w 26 #[.string ⟨#[]⟩, .string ⟨#[]⟩, .int .i64 0, .int .i64 0, .int .i64 0]).call hb1)
         have BW1 := Lib.hid (((Below.refl _ w).alloc (Nat.le_refl _) (.cells #[.string ⟨#[]⟩, .string ⟨#[]⟩, .int .i64 0, .int .i64 0, .int .i64 0] 26)).trans (hb1.mono (by simp)))
         obtain ⟨z0, z1, z2, z3, z4⟩ := perm_cells BZ1.out
         obtain ⟨f0, f1, f2, f3, f4⟩ := frozen5 BZ1.out
         have l1 := BZ1.out.lt
         have zw0 := (HST.out.2 0 (by omega))
         simp only [Nat.zero_add] at zw0
         have zw1 := (HST.out.2 1 (by omega))
         simp only [Nat.zero_add] at zw1
         clear hb1 hst)
      | (go_at_call 25
         with_reducible refine (SN0.out _).mono ?_
         rintro e w' ⟨rfl, rfl⟩)
      | (go_at_call 25
         with_reducible refine (SN1.out _).mono ?_
         rintro e w' ⟨rfl, rfl⟩))
    have HE5 := blk5_end (w := w) (a := .string ⟨#[]⟩) (b := .string ⟨#[]⟩) (c := .int .i64 0) (d := .int .i64 0) (e := .int .i64 0) BZ1.out rfl BW1.out
    obtain ⟨HE1, he2⟩ := HE5
    have HE2 := Lib.hid he2
    clear he2
    generalize (((((w1.setCell ⟨w.heap.size, 0, none⟩ (.string ⟨#[]⟩)).setCell ⟨w.heap.size, 1, none⟩ (.string ⟨#[]⟩)).setCell ⟨w.heap.size, 2, none⟩ (.int .i64 0)).setCell ⟨w.heap.size, 3, none⟩ (.int .i64 0)).setCell ⟨w.heap.size, 4, none⟩ (.int .i64 0)) = wq at HE1 HE2 ⊢
    obtain ⟨s0, s1, s2, s3, s4⟩ := perm_cells HE1
    refine bodyPost_ret (v := .tuple #[.agg #[.string ⟨#[]⟩, .string ⟨#[]⟩, .int .i64 0, .int .i64 0, .int .i64 0], .bool false]) (by simp [results, Tryz.results32, go_sem, s0, s1, s2, s3, s4]) rfl ⟨rfl, HE2.out⟩
set_option maxRecDepth 100000 in
set_option maxHeartbeats 8000000 in
theorem rline_go (s : ByteArray) (hs : s.size ≤ 5000) (X : Nat → ByteArray) (hX : X = fun k => (words s).getD k ByteArray.empty) (hN : 5 = (words s).length) (hv0 : nameB (X 0).data.toList = true) (hv1 : nameB (X 1).data.toList = true) (hsz : ∀ k, (X k).size ≤ 100000)
    (v2 v3 v4 : Int) (o2 o3 o4 : Bool)
    (su2 : ∀ w : World, Calls Tryz.prog 50 #[.string (X 2)] w fun e w' => e = .returned (.tuple #[.int .i64 v2, .bool o2]) ∧ w = w')
    (su3 : ∀ w : World, Calls Tryz.prog 50 #[.string (X 3)] w fun e w' => e = .returned (.tuple #[.int .i64 v3, .bool o3]) ∧ w = w')
    (su4 : ∀ w : World, Calls Tryz.prog 50 #[.string (X 4)] w fun e w' => e = .returned (.tuple #[.int .i64 v4, .bool o4]) ∧ w = w') (w : World) :
    Calls Tryz.prog 32 #[.string s] w fun e w' => e = .returned (.tuple #[.agg #[.string (X 0), .string (X 1), .int .i64 v2, .int .i64 v3, .int .i64 v4], .bool (o2 && o3 && o4)]) ∧ Below w.heap.size w w' := by
  have SS := Lib.hid fun w => rsplit s hs X hX 5 hN w
  have sn0 := fun w => risname (X 0) (by have := hsz 0; unfold maxLen; omega) w
  have sn1 := fun w => risname (X 1) (by have := hsz 1; unfold maxLen; omega) w
  rw [hv0] at sn0
  rw [hv1] at sn1
  have SN0 := Lib.hid sn0
  have SN1 := Lib.hid sn1
  have SU2 := Lib.hid su2
  have SU3 := Lib.hid su3
  have SU4 := Lib.hid su4
  clear hs sn0 sn1 hv0 hv1 hsz hX hN su2 su3 su4
  cases o2 with
  | false =>
    go_enter Tryz.func32, Tryz.ntmps32
    go_upto_region 7 with (first
      | (go_at_call 50
         with_reducible refine (SU4.out _).mono ?_
         clear SU4
         rintro e w' ⟨rfl, rfl⟩)
      | (go_at_call 50
         with_reducible refine (SU3.out _).mono ?_
         clear SU3
         rintro e w' ⟨rfl, rfl⟩)
      | (go_at_call 50
         with_reducible refine (SU2.out _).mono ?_
         clear SU2
         rintro e w' ⟨rfl, rfl⟩)
      | (go_at_call 31
         with_reducible refine (SS.out _).mono ?_
         rintro e w1 ⟨g1, cap1, rfl, hst, hb1⟩
         have HST := Lib.hid hst
         have BZ1 := Lib.hid ((Blk.new w 26 #[.string ⟨#[]⟩, .string ⟨#[]⟩, .int .i64 0, .int .i64 0, .int .i64 0]).call hb1)
         have BW1 := Lib.hid (((Below.refl _ w).alloc (Nat.le_refl _) (.cells #[.string ⟨#[]⟩, .string ⟨#[]⟩, .int .i64 0, .int .i64 0, .int .i64 0] 26)).trans (hb1.mono (by simp)))
         obtain ⟨z0, z1, z2, z3, z4⟩ := perm_cells BZ1.out
         obtain ⟨f0, f1, f2, f3, f4⟩ := frozen5 BZ1.out
         have l1 := BZ1.out.lt
         have zw0 := (HST.out.2 0 (by omega))
         simp only [Nat.zero_add] at zw0
         have zw1 := (HST.out.2 1 (by omega))
         simp only [Nat.zero_add] at zw1
         have zw2 := (HST.out.2 2 (by omega))
         simp only [Nat.zero_add] at zw2
         have zw3 := (HST.out.2 3 (by omega))
         simp only [Nat.zero_add] at zw3
         have zw4 := (HST.out.2 4 (by omega))
         simp only [Nat.zero_add] at zw4
         clear hb1 hst)
      | (go_at_call 25
         with_reducible refine (SN0.out _).mono ?_
         rintro e w' ⟨rfl, rfl⟩)
      | (go_at_call 25
         with_reducible refine (SN1.out _).mono ?_
         rintro e w' ⟨rfl, rfl⟩))
    go_region
    have HE5 := blk5_end (w := w) (a := .string (X 0)) (b := .string (X 1)) (c := .int .i64 v2) (d := .int .i64 v3) (e := .int .i64 v4) BZ1.out rfl BW1.out
    obtain ⟨HE1, he2⟩ := HE5
    have HE2 := Lib.hid he2
    clear he2
    generalize (((((w1.setCell ⟨w.heap.size, 0, none⟩ (.string (X 0))).setCell ⟨w.heap.size, 1, none⟩ (.string (X 1))).setCell ⟨w.heap.size, 2, none⟩ (.int .i64 v2)).setCell ⟨w.heap.size, 3, none⟩ (.int .i64 v3)).setCell ⟨w.heap.size, 4, none⟩ (.int .i64 v4)) = wq at HE1 HE2 ⊢
    have HE3 : Blk wq.drew w.heap.size 26 #[.string (X 0), .string (X 1), .int .i64 v2, .int .i64 v3, .int .i64 v4] := HE1
    have HE4 : Hid (Below w.heap.size w wq.drew) := HE2.out.drew
    generalize wq.drew = wd at HE3 HE4 ⊢
    obtain ⟨s0, s1, s2, s3, s4⟩ := perm_cells HE3
    go_wp2_with fail
    refine bodyPost_ret (v := .tuple #[.agg #[.string (X 0), .string (X 1), .int .i64 v2, .int .i64 v3, .int .i64 v4], .bool (false && o3 && o4)]) (by simp [results, Tryz.results32, go_sem, s0, s1, s2, s3, s4]) rfl ⟨rfl, HE4.out⟩
  | true =>
    cases o3 with
    | false =>
      go_enter Tryz.func32, Tryz.ntmps32
      go_upto_region 7 with (first
        | (go_at_call 50
           with_reducible refine (SU4.out _).mono ?_
           clear SU4
           rintro e w' ⟨rfl, rfl⟩)
        | (go_at_call 50
           with_reducible refine (SU3.out _).mono ?_
           clear SU3
           rintro e w' ⟨rfl, rfl⟩)
        | (go_at_call 50
           with_reducible refine (SU2.out _).mono ?_
           clear SU2
           rintro e w' ⟨rfl, rfl⟩)
        | (go_at_call 31
           with_reducible refine (SS.out _).mono ?_
           rintro e w1 ⟨g1, cap1, rfl, hst, hb1⟩
           have HST := Lib.hid hst
           have BZ1 := Lib.hid ((Blk.new w 26 #[.string ⟨#[]⟩, .string ⟨#[]⟩, .int .i64 0, .int .i64 0, .int .i64 0]).call hb1)
           have BW1 := Lib.hid (((Below.refl _ w).alloc (Nat.le_refl _) (.cells #[.string ⟨#[]⟩, .string ⟨#[]⟩, .int .i64 0, .int .i64 0, .int .i64 0] 26)).trans (hb1.mono (by simp)))
           obtain ⟨z0, z1, z2, z3, z4⟩ := perm_cells BZ1.out
           obtain ⟨f0, f1, f2, f3, f4⟩ := frozen5 BZ1.out
           have l1 := BZ1.out.lt
           have zw0 := (HST.out.2 0 (by omega))
           simp only [Nat.zero_add] at zw0
           have zw1 := (HST.out.2 1 (by omega))
           simp only [Nat.zero_add] at zw1
           have zw2 := (HST.out.2 2 (by omega))
           simp only [Nat.zero_add] at zw2
           have zw3 := (HST.out.2 3 (by omega))
           simp only [Nat.zero_add] at zw3
           have zw4 := (HST.out.2 4 (by omega))
           simp only [Nat.zero_add] at zw4
           clear hb1 hst)
        | (go_at_call 25
           with_reducible refine (SN0.out _).mono ?_
           rintro e w' ⟨rfl, rfl⟩)
        | (go_at_call 25
           with_reducible refine (SN1.out _).mono ?_
           rintro e w' ⟨rfl, rfl⟩))
      go_region
      have HE5 := blk5_end (w := w) (a := .string (X 0)) (b := .string (X 1)) (c := .int .i64 v2) (d := .int .i64 v3) (e := .int .i64 v4) BZ1.out rfl BW1.out
      obtain ⟨HE1, he2⟩ := HE5
      have HE2 := Lib.hid he2
      clear he2
      generalize (((((w1.setCell ⟨w.heap.size, 0, none⟩ (.string (X 0))).setCell ⟨w.heap.size, 1, none⟩ (.string (X 1))).setCell ⟨w.heap.size, 2, none⟩ (.int .i64 v2)).setCell ⟨w.heap.size, 3, none⟩ (.int .i64 v3)).setCell ⟨w.heap.size, 4, none⟩ (.int .i64 v4)) = wq at HE1 HE2 ⊢
      have HE3 : Blk wq.drew w.heap.size 26 #[.string (X 0), .string (X 1), .int .i64 v2, .int .i64 v3, .int .i64 v4] := HE1
      have HE4 : Hid (Below w.heap.size w wq.drew) := HE2.out.drew
      generalize wq.drew = wd at HE3 HE4 ⊢
      obtain ⟨s0, s1, s2, s3, s4⟩ := perm_cells HE3
      go_wp2_with fail
      refine bodyPost_ret (v := .tuple #[.agg #[.string (X 0), .string (X 1), .int .i64 v2, .int .i64 v3, .int .i64 v4], .bool (true && false && o4)]) (by simp [results, Tryz.results32, go_sem, s0, s1, s2, s3, s4]) rfl ⟨rfl, HE4.out⟩
    | true =>
      go_enter Tryz.func32, Tryz.ntmps32
      go_upto_region 7 with (first
        | (go_at_call 50
           with_reducible refine (SU4.out _).mono ?_
           clear SU4
           rintro e w' ⟨rfl, rfl⟩)
        | (go_at_call 50
           with_reducible refine (SU3.out _).mono ?_
           clear SU3
           rintro e w' ⟨rfl, rfl⟩)
        | (go_at_call 50
           with_reducible refine (SU2.out _).mono ?_
           clear SU2
           rintro e w' ⟨rfl, rfl⟩)
        | (go_at_call 31
           with_reducible refine (SS.out _).mono ?_
           rintro e w1 ⟨g1, cap1, rfl, hst, hb1⟩
           have HST := Lib.hid hst
           have BZ1 := Lib.hid ((Blk.new w 26 #[.string ⟨#[]⟩, .string ⟨#[]⟩, .int .i64 0, .int .i64 0, .int .i64 0]).call hb1)
           have BW1 := Lib.hid (((Below.refl _ w).alloc (Nat.le_refl _) (.cells #[.string ⟨#[]⟩, .string ⟨#[]⟩, .int .i64 0, .int .i64 0, .int .i64 0] 26)).trans (hb1.mono (by simp)))
           obtain ⟨z0, z1, z2, z3, z4⟩ := perm_cells BZ1.out
           obtain ⟨f0, f1, f2, f3, f4⟩ := frozen5 BZ1.out
           have l1 := BZ1.out.lt
           have zw0 := (HST.out.2 0 (by omega))
           simp only [Nat.zero_add] at zw0
           have zw1 := (HST.out.2 1 (by omega))
           simp only [Nat.zero_add] at zw1
           have zw2 := (HST.out.2 2 (by omega))
           simp only [Nat.zero_add] at zw2
           have zw3 := (HST.out.2 3 (by omega))
           simp only [Nat.zero_add] at zw3
           have zw4 := (HST.out.2 4 (by omega))
           simp only [Nat.zero_add] at zw4
           clear hb1 hst)
        | (go_at_call 25
           with_reducible refine (SN0.out _).mono ?_
           rintro e w' ⟨rfl, rfl⟩)
        | (go_at_call 25
           with_reducible refine (SN1.out _).mono ?_
           rintro e w' ⟨rfl, rfl⟩))
      go_region
      have HE5 := blk5_end (w := w) (a := .string (X 0)) (b := .string (X 1)) (c := .int .i64 v2) (d := .int .i64 v3) (e := .int .i64 v4) BZ1.out rfl BW1.out
      obtain ⟨HE1, he2⟩ := HE5
      have HE2 := Lib.hid he2
      clear he2
      generalize (((((w1.setCell ⟨w.heap.size, 0, none⟩ (.string (X 0))).setCell ⟨w.heap.size, 1, none⟩ (.string (X 1))).setCell ⟨w.heap.size, 2, none⟩ (.int .i64 v2)).setCell ⟨w.heap.size, 3, none⟩ (.int .i64 v3)).setCell ⟨w.heap.size, 4, none⟩ (.int .i64 v4)) = wq at HE1 HE2 ⊢
      have HE3 : Blk wq.drew w.heap.size 26 #[.string (X 0), .string (X 1), .int .i64 v2, .int .i64 v3, .int .i64 v4] := HE1
      have HE4 : Hid (Below w.heap.size w wq.drew) := HE2.out.drew
      generalize wq.drew = wd at HE3 HE4 ⊢
      obtain ⟨s0, s1, s2, s3, s4⟩ := perm_cells HE3
      go_wp2_with fail
      refine bodyPost_ret (v := .tuple #[.agg #[.string (X 0), .string (X 1), .int .i64 v2, .int .i64 v3, .int .i64 v4], .bool (true && true && o4)]) (by simp [results, Tryz.results32, go_sem, s0, s1, s2, s3, s4]) rfl ⟨rfl, HE4.out⟩
theorem rline_ok (s : ByteArray) (hs : s.size ≤ 5000) (p : Pmr) (hp : formP p) (h : s.data.toList = pln p) (w : World) :
    Calls Tryz.prog 32 #[.string s] w fun e w' => e = .returned (.tuple #[.agg #[.string p.nm, .string p.nd, .int .i64 p.ev, .int .i64 p.vol, .int .i64 p.tot], .bool true]) ∧ Below w.heap.size w w' := by
  have hw := words_of_pln h hp
  obtain ⟨X, hX⟩ : ∃ X : Nat → ByteArray, X = fun k => (words s).getD k ByteArray.empty := ⟨_, rfl⟩
  have hsz : ∀ k, (X k).size ≤ 100000 := fun k => by rw [hX]; exact xsize s (by omega) k
  have x0 : X 0 = p.nm := by rw [hX, hw]; rfl
  have x1 : X 1 = p.nd := by rw [hX, hw]; rfl
  have x2 : X 2 = ⟨(Lib.itoa p.ev).toArray⟩ := by rw [hX, hw]; rfl
  have x3 : X 3 = ⟨(Lib.itoa p.vol).toArray⟩ := by rw [hX, hw]; rfl
  have x4 : X 4 = ⟨(Lib.itoa p.tot).toArray⟩ := by rw [hX, hw]; rfl
  have key : ∀ (x : ByteArray) (v : Int), x.size ≤ 100000 → NumW x v → ∀ w : World, Calls Tryz.prog 50 #[.string x] w fun e w' => e = .returned (.tuple #[.int .i64 v, .bool true]) ∧ w = w' := fun x v hx hv => by
    obtain ⟨v', f, h1, h2⟩ := rnumD x hx
    cases f with
    | false => exact absurd hv ((h1.2 rfl).2 v)
    | true =>
      have e1 := (numw_digits (h1.1 rfl)).2.2.2.2
      have e2 := (numw_digits hv).2.2.2.2
      rw [e2, ← e1]; exact h2
  have S := rline_go s hs X hX (by rw [hw]; rfl) (by rw [x0]; exact hp.nm) (by rw [x1]; exact hp.nd) hsz p.ev p.vol p.tot true true true (key _ _ (hsz 2) (by rw [x2]; exact ⟨hp.ev, by simp⟩)) (key _ _ (hsz 3) (by rw [x3]; exact ⟨hp.vol, by simp⟩)) (key _ _ (hsz 4) (by rw [x4]; exact ⟨hp.tot, by simp⟩)) w
  rw [x0, x1] at S
  exact S
theorem rline_no (s : ByteArray) (hs : s.size ≤ 5000) (hno : ∀ p, formP p → s.data.toList ≠ pln p) : ∃ q : Pmr, ∀ w : World,
    Calls Tryz.prog 32 #[.string s] w fun e w' => e = .returned (.tuple #[.agg #[.string q.nm, .string q.nd, .int .i64 q.ev, .int .i64 q.vol, .int .i64 q.tot], .bool false]) ∧ Below w.heap.size w w' := by
  obtain ⟨X, hX⟩ : ∃ X : Nat → ByteArray, X = fun k => (words s).getD k ByteArray.empty := ⟨_, rfl⟩
  have hsz : ∀ k, (X k).size ≤ 100000 := fun k => by rw [hX]; exact xsize s (by omega) k
  by_cases h5 : (words s).length = 5
  case neg => exact ⟨zPm, fun w => rline_bad s hs X hX _ rfl (.inl h5) hsz w⟩
  by_cases hv : nameB (X 0).data.toList = true ∧ nameB (X 1).data.toList = true
  case neg =>
    refine ⟨zPm, fun w => rline_bad s hs X hX _ rfl (.inr ⟨h5, ?_⟩) hsz w⟩
    by_cases h0 : nameB (X 0).data.toList = true
    · right
      cases h1 : nameB (X 1).data.toList with
      | false => rfl
      | true => exact absurd ⟨h0, h1⟩ hv
    · left; simpa using h0
  obtain ⟨hv0, hv1⟩ := hv
  obtain ⟨v2, f2, a2, S2⟩ := rnumD (X 2) (hsz 2)
  obtain ⟨v3, f3, a3, S3⟩ := rnumD (X 3) (hsz 3)
  obtain ⟨v4, f4, a4, S4⟩ := rnumD (X 4) (hsz 4)
  have hf : (f2 && f3 && f4) = false := by
    cases f2 <;> cases f3 <;> cases f4 <;> first | rfl | skip
    have hw := list5 h5
    have e : words s = [X 0, X 1, X 2, X 3, X 4] := by rw [hX]; exact hw
    exact absurd (pln_of_words e (a2.1 rfl) (a3.1 rfl) (a4.1 rfl)) (hno ⟨X 0, X 1, v2, v3, v4⟩ ⟨hv0, hv1, (a2.1 rfl).1, (a3.1 rfl).1, (a4.1 rfl).1⟩)
  refine ⟨⟨X 0, X 1, v2, v3, v4⟩, fun w => ?_⟩
  have S := rline_go s hs X hX h5.symm hv0 hv1 hsz v2 v3 v4 f2 f3 f4 S2 S3 S4 w
  rw [hf] at S
  exact S
end Go.Proofs.YtigocjhmgmhocaaGreatDoor

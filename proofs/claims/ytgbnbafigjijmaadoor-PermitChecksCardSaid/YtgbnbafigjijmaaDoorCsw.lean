/- The walk of the law PermitChecks. -/
import Derived.Test.YtgbnbafigjijmaaDoorBrk
import Derived.Test.YtgbnbafigjijmaaDoorRCk
namespace Go.Proofs.YtgbnbafigjijmaaDoor
open Go.RowKit Go.Maps
set_option linter.unusedVariables false
set_option linter.unusedSimpArgs false

set_option maxRecDepth 100000 in
set_option maxHeartbeats 8000000 in
theorem checks_walk (nm nd : ByteArray) (ev vol tot : Int) (hn1 : nm.size ≤ maxLen) (hn2 : nd.size ≤ maxLen) (A : Option Addr) (n c : Nat) (E : Evs) (from_ sec : Int) (w : World) (hE : Env w) (hT : EvIn w A n E) :
    Calls Tryd.prog 4 #[.agg #[.string nm, .string nd, .int .i64 ev, .int .i64 vol, .int .i64 tot], .slice A n c, .int .i64 from_, .int .i64 sec] w fun e w' => e = .returned (.bool true) ∧ Below w.heap.size w w' := by
  have SA := Lib.hid fun w hE => caw w hE
  have SL := Lib.hid fun w => tlong nm nd ev vol tot w
  have H0 := Lib.hid (LCtx.start w #[.string nm, .string nd, .int .i64 ev, .int .i64 vol, .int .i64 tot] hE hT)
  by_cases hlong : 60 < nm.size ∨ 60 < nd.size
  · rw [decide_eq_true hlong] at SL
    clear hlong hE hT
    go_enter Tryd.func4, Tryd.ntmps4
    go_wp2_with (first
      | (go_at_call 9
         with_reducible refine (SA.out _ H0.out.env).mono ?_
         rintro e w1 ⟨rfl, hb1⟩
         have H1 := Lib.hid (H0.out.call hb1)
         obtain ⟨p0, p1, p2, p3, p4⟩ := perm_cells H1.out.blk
         clear hb1)
      | (go_at_call 10
         with_reducible refine (SL.out _).mono ?_
         rintro e w2 ⟨rfl, hb2⟩
         have H2 := Lib.hid (H1.out.call hb2)
         obtain ⟨p0, p1, p2, p3, p4⟩ := perm_cells H2.out.blk
         clear hb2))
    go_ret
    exact ⟨rfl, H2.out.bel⟩
  rw [decide_eq_false hlong] at SL
  by_cases h40 : 40 < n
  · have t1 : decide ((40 : Int) < (n : Int)) = true := decide_eq_true (by omega)
    have t1' : decide (40 < n) = true := decide_eq_true h40
    clear hlong hE hT h40
    go_enter Tryd.func4, Tryd.ntmps4
    go_wp2_with (first
      | (go_at_call 9
         with_reducible refine (SA.out _ H0.out.env).mono ?_
         rintro e w1 ⟨rfl, hb1⟩
         have H1 := Lib.hid (H0.out.call hb1)
         obtain ⟨p0, p1, p2, p3, p4⟩ := perm_cells H1.out.blk
         clear hb1)
      | (go_at_call 10
         with_reducible refine (SL.out _).mono ?_
         rintro e w2 ⟨rfl, hb2⟩
         have H2 := Lib.hid (H1.out.call hb2)
         obtain ⟨p0, p1, p2, p3, p4⟩ := perm_cells H2.out.blk
         clear hb2))
    go_ret
    exact ⟨rfl, H2.out.bel⟩
  have t1 : decide ((40 : Int) < (n : Int)) = false := decide_eq_false (by omega)
  have t1' : decide (40 < n) = false := decide_eq_false h40
  obtain ⟨er, her⟩ : ∃ z, z = yErr (validB nm nd ev vol tot = true) E n from_ sec := ⟨_, rfl⟩
  obtain ⟨k, f, hf⟩ := FirstIs.ex (validB nm nd ev vol tot = true) E n from_ sec ev vol tot
  have SC := Lib.hid fun w hE hT => tcheck nm nd ev vol tot hn1 hn2 A n c E from_ sec (by omega) w hE hT er her
  have SD := Lib.hid fun w hT => rcheck nm nd ev vol tot hn1 hn2 A n c E from_ sec (by omega) w hT er her
  have SF := Lib.hid fun w hT => tfirst nm nd ev vol tot hn1 hn2 A n c E from_ sec (by omega) w hT k f hf
  have SG := Lib.hid fun w hT => rfirst nm nd ev vol tot hn1 hn2 A n c E from_ sec (by omega) w hT k f hf
  have SV := Lib.hid fun w => tvalid nm nd ev vol tot hn1 hn2 w
  have SW := Lib.hid fun w => rvalid nm nd ev vol tot hn1 hn2 w
  have SQ := Lib.hid fun A B N c d w hN hA hB => fequal A B N c d (chkL (validB nm nd ev vol tot = true) E n from_ sec ev vol tot) w hN hA hB
  generalize hL : chkL (validB nm nd ev vol tot = true) E n from_ sec ev vol tot = L at SQ
  have HL := Lib.hid hL
  have HLL : Hid (∀ N : Nat, N = (chkL (validB nm nd ev vol tot = true) E n from_ sec ev vol tot).length → N = L.length) := fun N h => by rw [h, hL]
  obtain ⟨vb, hvb⟩ : ∃ z, z = validB nm nd ev vol tot := ⟨_, rfl⟩
  rw [← hvb] at SV SW
  clear hlong hE hT h40 her hf hL hvb hn1 hn2
  go_enter Tryd.func4, Tryd.ntmps4
  go_upto_region 9 with (first
    | (go_at_call 9
       with_reducible refine (SA.out _ H0.out.env).mono ?_
       rintro e w1 ⟨rfl, hb1⟩
       have H1 := Lib.hid (H0.out.call hb1)
       obtain ⟨p0, p1, p2, p3, p4⟩ := perm_cells H1.out.blk
       clear hb1)
    | (go_at_call 10
       with_reducible refine (SL.out _).mono ?_
       rintro e w2 ⟨rfl, hb2⟩
       have H2 := Lib.hid (H1.out.call hb2)
       obtain ⟨p0, p1, p2, p3, p4⟩ := perm_cells H2.out.blk
       clear hb2)
    | (go_at_call 11
       with_reducible refine (SC.out _ H2.out.env H2.out.ev).mono ?_
       rintro e w3 ⟨A3, N3, c3, rfl, hN3, hF3, hb3⟩
       have H3 := Lib.hid (H2.out.call hb3)
       have FA3 := Lib.hid hF3
       have HN3 := Lib.hid hN3
       clear hF3 hN3
       obtain ⟨p0, p1, p2, p3, p4⟩ := perm_cells H3.out.blk
       clear hb3)
    | (go_at_call 15
       with_reducible refine (SF.out _ H3.out.ev).mono ?_
       rintro e w4 ⟨rfl, hb4⟩
       have H4 := Lib.hid (H3.out.call hb4)
       have FA4 := Lib.hid (FA3.out.below (Nat.le_refl _) hb4)
       obtain ⟨p0, p1, p2, p3, p4⟩ := perm_cells H4.out.blk
       clear hb4)
    | (go_at_call 16
       with_reducible refine (SD.out _ H4.out.ev).mono ?_
       rintro e w5 ⟨B3, M3, d3, rfl, hM3, hG3, hb5⟩
       have H5 := Lib.hid (H4.out.call hb5)
       have FA5 := Lib.hid (FA4.out.below (Nat.le_refl _) hb5)
       have FB5 := Lib.hid hG3
       have HM3 := Lib.hid hM3
       clear hG3 hM3
       obtain ⟨p0, p1, p2, p3, p4⟩ := perm_cells H5.out.blk
       clear hb5)
    | (go_at_call 17
       with_reducible refine (SG.out _ H5.out.ev).mono ?_
       rintro e w6 ⟨rfl, hb6⟩
       have H6 := Lib.hid (H5.out.call hb6)
       have FA6 := Lib.hid (FA5.out.below (Nat.le_refl _) hb6)
       have FB6 := Lib.hid (FB5.out.below (Nat.le_refl _) hb6)
       obtain ⟨p0, p1, p2, p3, p4⟩ := perm_cells H6.out.blk
       clear hb6))
  have fa := FA6.out
  have fb := FB6.out
  have hm := HM3.out.trans HN3.out.symm
  have hn := HLL.out _ HN3.out
  rw [HL.out] at fa fb
  have HF6 := Lib.hid fa
  have HG6 := Lib.hid fb
  have HN := Lib.hid hn
  subst hm
  clear fa fb hn FA3 FA4 FA5 FB5 FA6 FB6 HM3 HN3
  obtain ⟨p0, p1, p2, p3, p4⟩ := perm_cells H6.out.blk
  obtain ⟨r0, r1, r2, r3, r4⟩ := perm_cells H6.out.drew.blk
  go_region_held3 (fun w' => w'.cell? ⟨w.heap.size, 0, none⟩ = some (.string nm) ∧ w'.cell? ⟨w.heap.size, 1, none⟩ = some (.string nd) ∧ w'.cell? ⟨w.heap.size, 2, none⟩ = some (.int .i64 ev) ∧ w'.cell? ⟨w.heap.size, 3, none⟩ = some (.int .i64 vol) ∧ w'.cell? ⟨w.heap.size, 4, none⟩ = some (.int .i64 tot)) (first | exact ⟨q0, q1, q2, q3, q4⟩ | exact ⟨p0, p1, p2, p3, p4⟩ | exact ⟨r0, r1, r2, r3, r4⟩) (first
    | (go_at_call 18
       with_reducible refine (SV.out _).mono ?_
       rintro e w8 ⟨rfl, hb8⟩
       have H8 := Lib.hid (H7.out.call hb8)
       have HF8 := Lib.hid (HF7.out.below (Nat.le_refl _) hb8)
       have HG8 := Lib.hid (HG7.out.below (Nat.le_refl _) hb8)
       obtain ⟨q0, q1, q2, q3, q4⟩ := perm_cells H8.out.blk
       clear hb8)
    | (go_at_call 19
       with_reducible refine (SW.out _).mono ?_
       rintro e w8 ⟨rfl, hb8⟩
       have H8 := Lib.hid (H7.out.call hb8)
       have HF8 := Lib.hid (HF7.out.below (Nat.le_refl _) hb8)
       have HG8 := Lib.hid (HG7.out.below (Nat.le_refl _) hb8)
       obtain ⟨q0, q1, q2, q3, q4⟩ := perm_cells H8.out.blk
       clear hb8)
    | (go_at_call 18
       with_reducible refine (SV.out _).mono ?_
       rintro e w7 ⟨rfl, hb7⟩
       have H7 := Lib.hid (H6.out.drew.call hb7)
       have HF7 := Lib.hid ((HF6.out.below (Nat.le_refl _) ((Below.refl _ w6).drew)).below (Nat.le_refl _) hb7)
       have HG7 := Lib.hid ((HG6.out.below (Nat.le_refl _) ((Below.refl _ w6).drew)).below (Nat.le_refl _) hb7)
       obtain ⟨q0, q1, q2, q3, q4⟩ := perm_cells H7.out.blk
       clear hb7)
    | (go_at_call 19
       with_reducible refine (SW.out _).mono ?_
       rintro e w7 ⟨rfl, hb7⟩
       have H7 := Lib.hid (H6.out.drew.call hb7)
       have HF7 := Lib.hid ((HF6.out.below (Nat.le_refl _) ((Below.refl _ w6).drew)).below (Nat.le_refl _) hb7)
       have HG7 := Lib.hid ((HG6.out.below (Nat.le_refl _) ((Below.refl _ w6).drew)).below (Nat.le_refl _) hb7)
       obtain ⟨q0, q1, q2, q3, q4⟩ := perm_cells H7.out.blk
       clear hb7)
    | (go_at_call 20
       with_reducible refine (SQ.out _ _ _ _ _ _ HN.out HF8.out HG8.out).mono ?_
       rintro e w9 ⟨rfl, hb9⟩
       have H9 := Lib.hid (H8.out.call hb9)
       obtain ⟨q0, q1, q2, q3, q4⟩ := perm_cells H9.out.blk
       clear hb9))
  all_goals (go_wp2_with fail)
  all_goals go_ret
  all_goals (exact ⟨by first | rfl | (simp; done), H9.out.bel⟩)
end Go.Proofs.YtgbnbafigjijmaaDoor

/- The walk of the law PermitRests. -/
import Derived.Test.YtgbnbafigjijmaaDoorBrk
import Derived.Test.YtgbnbafigjijmaaDoorRMg
namespace Go.Proofs.YtgbnbafigjijmaaDoor
open Go.RowKit Go.Maps
set_option linter.unusedVariables false
set_option linter.unusedSimpArgs false

theorem leftRes_is (ok : Prop) (E : Evs) (n : Nat) (from_ sec t ev tot : Int) : ∃ a b e : Int, leftRes ok E n from_ sec t ev tot = .tuple #[.int .i64 a, .int .i64 b, .int .i64 e] := by
  unfold leftRes
  split
  · exact ⟨_, _, _, rfl⟩
  · exact ⟨_, _, _, rfl⟩
theorem mergeRes_is (nm nd : ByteArray) (ev vol tot : Int) (qm qd : ByteArray) (ev' vol' tot' : Int) : ∃ (x0 x1 : ByteArray) (x2 x3 x4 e : Int), mergeRes nm nd ev vol tot qm qd ev' vol' tot' = .tuple #[.agg #[.string x0, .string x1, .int .i64 x2, .int .i64 x3, .int .i64 x4], .int .i64 e] := by
  unfold mergeRes
  split
  · split
    · exact ⟨_, _, _, _, _, _, rfl⟩
    · exact ⟨⟨#[]⟩, ⟨#[]⟩, 0, 0, 0, 25, rfl⟩
  · exact ⟨⟨#[]⟩, ⟨#[]⟩, 0, 0, 0, 1, rfl⟩
theorem mergeRes_bad {nm nd : ByteArray} {ev vol tot : Int} {qm qd : ByteArray} {ev' vol' tot' : Int} (h : ¬ (validB nm nd ev vol tot = true ∧ validB qm qd ev' vol' tot' = true)) : mergeRes nm nd ev vol tot qm qd ev' vol' tot' = .tuple #[.agg #[.string ⟨#[]⟩, .string ⟨#[]⟩, .int .i64 0, .int .i64 0, .int .i64 0], .int .i64 1] := by
  unfold mergeRes; rw [if_neg h]; rfl
set_option maxRecDepth 100000 in
set_option maxHeartbeats 8000000 in
theorem rests_walk (nm nd : ByteArray) (ev vol tot : Int) (hn1 : nm.size ≤ maxLen) (hn2 : nd.size ≤ maxLen) (qm qd : ByteArray) (ev' vol' tot' : Int) (hn3 : qm.size ≤ maxLen) (hn4 : qd.size ≤ maxLen) (A : Option Addr) (n c : Nat) (E : Evs) (from_ sec t : Int) (w : World) (hE : Env w) (hT : EvIn w A n E) :
    Calls Tryd.prog 5 #[.agg #[.string nm, .string nd, .int .i64 ev, .int .i64 vol, .int .i64 tot], .agg #[.string qm, .string qd, .int .i64 ev', .int .i64 vol', .int .i64 tot'], .slice A n c, .int .i64 from_, .int .i64 sec, .int .i64 t] w fun e w' => e = .returned (.bool true) ∧ Below w.heap.size w w' := by
  have SA := Lib.hid fun w hE => caw w hE
  have SLp := Lib.hid fun w => tlong nm nd ev vol tot w
  have SLq := Lib.hid fun w => tlong qm qd ev' vol' tot' w
  have H0 := Lib.hid ((LCtx.start w #[.string nm, .string nd, .int .i64 ev, .int .i64 vol, .int .i64 tot] hE hT).alloc (Obj.cells #[.string qm, .string qd, .int .i64 ev', .int .i64 vol', .int .i64 tot'] 23))
  have B0 : Hid (Blk ((w.alloc (Obj.cells #[.string nm, .string nd, .int .i64 ev, .int .i64 vol, .int .i64 tot] 23)).alloc (Obj.cells #[.string qm, .string qd, .int .i64 ev', .int .i64 vol', .int .i64 tot'] 23)) (w.heap.size + 1) 23 #[.string qm, .string qd, .int .i64 ev', .int .i64 vol', .int .i64 tot']) := by
    have h := Blk.new (w.alloc (Obj.cells #[.string nm, .string nd, .int .i64 ev, .int .i64 vol, .int .i64 tot] 23)) 23 #[.string qm, .string qd, .int .i64 ev', .int .i64 vol', .int .i64 tot']
    rw [show (w.alloc (Obj.cells #[.string nm, .string nd, .int .i64 ev, .int .i64 vol, .int .i64 tot] 23)).heap.size = w.heap.size + 1 by simp] at h
    exact h
  by_cases hlp : 60 < nm.size ∨ 60 < nd.size
  · rw [decide_eq_true hlp] at SLp
    clear hlp hE hT
    go_enter Tryd.func5, Tryd.ntmps5
    go_wp2_with (first
      | (go_at_call 9
         with_reducible refine (SA.out _ H0.out.env).mono ?_
         rintro e w1 ⟨rfl, hb1⟩
         have H1 := Lib.hid (H0.out.call hb1)
         have B1 := Lib.hid (B0.out.call hb1)
         obtain ⟨p0, p1, p2, p3, p4⟩ := perm_cells H1.out.blk
         obtain ⟨q0, q1, q2, q3, q4⟩ := perm_cells B1.out
         clear hb1)
      | (go_at_call 10
         with_reducible refine (SLp.out _).mono ?_
         rintro e w2 ⟨rfl, hb2⟩
         have H2 := Lib.hid (H1.out.call hb2)
         have B2 := Lib.hid (B1.out.call hb2)
         obtain ⟨p0, p1, p2, p3, p4⟩ := perm_cells H2.out.blk
         obtain ⟨q0, q1, q2, q3, q4⟩ := perm_cells B2.out
         clear hb2))
    go_ret
    exact ⟨rfl, H2.out.bel⟩
  rw [decide_eq_false hlp] at SLp
  by_cases hlq : 60 < qm.size ∨ 60 < qd.size
  · rw [decide_eq_true hlq] at SLq
    clear hlp hlq hE hT
    go_enter Tryd.func5, Tryd.ntmps5
    go_wp2_with (first
      | (go_at_call 9
         with_reducible refine (SA.out _ H0.out.env).mono ?_
         rintro e w1 ⟨rfl, hb1⟩
         have H1 := Lib.hid (H0.out.call hb1)
         have B1 := Lib.hid (B0.out.call hb1)
         obtain ⟨p0, p1, p2, p3, p4⟩ := perm_cells H1.out.blk
         obtain ⟨q0, q1, q2, q3, q4⟩ := perm_cells B1.out
         clear hb1)
      | (go_at_call 10
         with_reducible refine (SLp.out _).mono ?_
         rintro e w2 ⟨rfl, hb2⟩
         have H2 := Lib.hid (H1.out.call hb2)
         have B2 := Lib.hid (B1.out.call hb2)
         obtain ⟨p0, p1, p2, p3, p4⟩ := perm_cells H2.out.blk
         obtain ⟨q0, q1, q2, q3, q4⟩ := perm_cells B2.out
         clear hb2)
      | (go_at_call 10
         with_reducible refine (SLq.out _).mono ?_
         rintro e w3 ⟨rfl, hb3⟩
         have H3 := Lib.hid (H2.out.call hb3)
         have B3 := Lib.hid (B2.out.call hb3)
         obtain ⟨p0, p1, p2, p3, p4⟩ := perm_cells H3.out.blk
         obtain ⟨q0, q1, q2, q3, q4⟩ := perm_cells B3.out
         clear hb3))
    go_ret
    exact ⟨rfl, H3.out.bel⟩
  rw [decide_eq_false hlq] at SLq
  by_cases h40 : 40 < n
  · have t1 : decide ((40 : Int) < (n : Int)) = true := decide_eq_true (by omega)
    have t1' : decide (40 < n) = true := decide_eq_true h40
    clear hlp hlq hE hT h40
    go_enter Tryd.func5, Tryd.ntmps5
    go_wp2_with (first
      | (go_at_call 9
         with_reducible refine (SA.out _ H0.out.env).mono ?_
         rintro e w1 ⟨rfl, hb1⟩
         have H1 := Lib.hid (H0.out.call hb1)
         have B1 := Lib.hid (B0.out.call hb1)
         obtain ⟨p0, p1, p2, p3, p4⟩ := perm_cells H1.out.blk
         obtain ⟨q0, q1, q2, q3, q4⟩ := perm_cells B1.out
         clear hb1)
      | (go_at_call 10
         with_reducible refine (SLp.out _).mono ?_
         rintro e w2 ⟨rfl, hb2⟩
         have H2 := Lib.hid (H1.out.call hb2)
         have B2 := Lib.hid (B1.out.call hb2)
         obtain ⟨p0, p1, p2, p3, p4⟩ := perm_cells H2.out.blk
         obtain ⟨q0, q1, q2, q3, q4⟩ := perm_cells B2.out
         clear hb2)
      | (go_at_call 10
         with_reducible refine (SLq.out _).mono ?_
         rintro e w3 ⟨rfl, hb3⟩
         have H3 := Lib.hid (H2.out.call hb3)
         have B3 := Lib.hid (B2.out.call hb3)
         obtain ⟨p0, p1, p2, p3, p4⟩ := perm_cells H3.out.blk
         obtain ⟨q0, q1, q2, q3, q4⟩ := perm_cells B3.out
         clear hb3))
    go_ret
    exact ⟨rfl, H3.out.bel⟩
  have t1 : decide ((40 : Int) < (n : Int)) = false := decide_eq_false (by omega)
  have t1' : decide (40 < n) = false := decide_eq_false h40
  have st := fun w hT => tleft nm nd ev vol tot hn1 hn2 A n c E from_ sec t (by omega) w hT
  have sr := fun w hT => rleft nm nd ev vol tot hn1 hn2 A n c E from_ sec t (by omega) w hT
  obtain ⟨ra, rb, re, hlr⟩ := leftRes_is (validB nm nd ev vol tot = true) E n from_ sec t ev tot
  rw [hlr] at st sr
  have ST := Lib.hid st
  have SR := Lib.hid sr
  have sm := fun w => tmerge nm nd ev vol tot qm qd ev' vol' tot' hn1 hn2 hn3 hn4 w
  have sv1 := fun w => rvalid nm nd ev vol tot hn1 hn2 w
  have sv2 := fun w => rvalid qm qd ev' vol' tot' hn3 hn4 w
  by_cases hv : validB nm nd ev vol tot = true ∧ validB qm qd ev' vol' tot' = true
  · have srm := fun w => rmerge nm nd ev vol tot qm qd ev' vol' tot' w hv.1 hv.2
    rw [hv.1] at sv1
    rw [hv.2] at sv2
    obtain ⟨x0, x1, x2, x3, x4, me, hmr⟩ := mergeRes_is nm nd ev vol tot qm qd ev' vol' tot'
    rw [hmr] at sm srm
    have SM := Lib.hid sm
    have SRM := Lib.hid srm
    have SV1 := Lib.hid sv1
    have SV2 := Lib.hid sv2
    clear hlp hlq hE hT h40 hlr st sr sm sv1 sv2 srm hmr hv hn1 hn2 hn3 hn4
    go_enter Tryd.func5, Tryd.ntmps5
    go_upto_region 8 with (first
      | (go_at_call 9
         with_reducible refine (SA.out _ H0.out.env).mono ?_
         rintro e w1 ⟨rfl, hb1⟩
         have H1 := Lib.hid (H0.out.call hb1)
         have B1 := Lib.hid (B0.out.call hb1)
         obtain ⟨p0, p1, p2, p3, p4⟩ := perm_cells H1.out.blk
         obtain ⟨q0, q1, q2, q3, q4⟩ := perm_cells B1.out
         clear hb1)
      | (go_at_call 10
         with_reducible refine (SLp.out _).mono ?_
         rintro e w2 ⟨rfl, hb2⟩
         have H2 := Lib.hid (H1.out.call hb2)
         have B2 := Lib.hid (B1.out.call hb2)
         obtain ⟨p0, p1, p2, p3, p4⟩ := perm_cells H2.out.blk
         obtain ⟨q0, q1, q2, q3, q4⟩ := perm_cells B2.out
         clear hb2)
      | (go_at_call 10
         with_reducible refine (SLq.out _).mono ?_
         rintro e w3 ⟨rfl, hb3⟩
         have H3 := Lib.hid (H2.out.call hb3)
         have B3 := Lib.hid (B2.out.call hb3)
         obtain ⟨p0, p1, p2, p3, p4⟩ := perm_cells H3.out.blk
         obtain ⟨q0, q1, q2, q3, q4⟩ := perm_cells B3.out
         clear hb3)
      | (go_at_call 21
         with_reducible refine (ST.out _ H3.out.ev).mono ?_
         rintro e w4 ⟨rfl, hb4⟩
         have H4 := Lib.hid (H3.out.call hb4)
         have B4 := Lib.hid (B3.out.call hb4)
         obtain ⟨p0, p1, p2, p3, p4⟩ := perm_cells H4.out.blk
         obtain ⟨q0, q1, q2, q3, q4⟩ := perm_cells B4.out
         clear hb4)
      | (go_at_call 22
         with_reducible refine (SR.out _ H4.out.ev).mono ?_
         rintro e w5 ⟨rfl, hb5⟩
         have H5 := Lib.hid (H4.out.call hb5)
         have B5 := Lib.hid (B4.out.call hb5)
         obtain ⟨p0, p1, p2, p3, p4⟩ := perm_cells H5.out.blk
         obtain ⟨q0, q1, q2, q3, q4⟩ := perm_cells B5.out
         clear hb5)
      | (go_at_call 23
         with_reducible refine (SM.out _).mono ?_
         rintro e w6 ⟨rfl, hb6⟩
         have H6 := Lib.hid (H5.out.call hb6)
         have B6 := Lib.hid (B5.out.call hb6)
         obtain ⟨p0, p1, p2, p3, p4⟩ := perm_cells H6.out.blk
         obtain ⟨q0, q1, q2, q3, q4⟩ := perm_cells B6.out
         clear hb6))
    have hal : Below w6.heap.size w6 (w6.alloc (Obj.cells #[.string x0, .string x1, .int .i64 x2, .int .i64 x3, .int .i64 x4] 23)) := (Below.refl _ w6).alloc (Nat.le_refl _) _
    have H7 := Lib.hid (H6.out.call hal)
    have B7 := Lib.hid (B6.out.call hal)
    have M7 := Lib.hid (Blk.new w6 23 #[.string x0, .string x1, .int .i64 x2, .int .i64 x3, .int .i64 x4])
    obtain ⟨gm, hgm⟩ : ∃ z, z = w6.heap.size := ⟨_, rfl⟩
    rw [← hgm] at M7 ⊢
    clear hal hgm p0 p1 p2 p3 p4 q0 q1 q2 q3 q4
    generalize (w6.alloc (Obj.cells #[.string x0, .string x1, .int .i64 x2, .int .i64 x3, .int .i64 x4] 23)) = w7 at H7 B7 M7 ⊢
    obtain ⟨p0, p1, p2, p3, p4⟩ := perm_cells H7.out.blk
    obtain ⟨q0, q1, q2, q3, q4⟩ := perm_cells B7.out
    obtain ⟨m0, m1, m2, m3, m4⟩ := perm_cells M7.out

    go_upto_region 13 with (first
      | (go_at_call 19
         with_reducible refine (SV1.out _).mono ?_
         rintro e w8 ⟨rfl, hb8⟩
         have H8 := Lib.hid (H7.out.call hb8)
         have B8 := Lib.hid (B7.out.call hb8)
         obtain ⟨p0, p1, p2, p3, p4⟩ := perm_cells H8.out.blk
         obtain ⟨q0, q1, q2, q3, q4⟩ := perm_cells B8.out
         have M8 := Lib.hid (M7.out.call hb8)
         obtain ⟨m0, m1, m2, m3, m4⟩ := perm_cells M8.out
         clear hb8)
      | (go_at_call 19
         with_reducible refine (SV2.out _).mono ?_
         rintro e w9 ⟨rfl, hb9⟩
         have H9 := Lib.hid (H8.out.call hb9)
         have B9 := Lib.hid (B8.out.call hb9)
         obtain ⟨p0, p1, p2, p3, p4⟩ := perm_cells H9.out.blk
         obtain ⟨q0, q1, q2, q3, q4⟩ := perm_cells B9.out
         have M9 := Lib.hid (M8.out.call hb9)
         obtain ⟨m0, m1, m2, m3, m4⟩ := perm_cells M9.out
         clear hb9)
      | (go_at_call 24
         with_reducible refine (SRM.out _).mono ?_
         rintro e w10 ⟨rfl, hb10⟩
         have H10 := Lib.hid (H9.out.call hb10)
         have B10 := Lib.hid (B9.out.call hb10)
         obtain ⟨p0, p1, p2, p3, p4⟩ := perm_cells H10.out.blk
         obtain ⟨q0, q1, q2, q3, q4⟩ := perm_cells B10.out
         have M10 := Lib.hid (M9.out.call hb10)
         obtain ⟨m0, m1, m2, m3, m4⟩ := perm_cells M10.out
         clear hb10))
    have hal : Below w10.heap.size w10 (w10.alloc (Obj.cells #[.string x0, .string x1, .int .i64 x2, .int .i64 x3, .int .i64 x4] 23)) := (Below.refl _ w10).alloc (Nat.le_refl _) _
    have H11 := Lib.hid (H10.out.call hal)
    have M11 := Lib.hid (M10.out.call hal)
    have N11 := Lib.hid (Blk.new w10 23 #[.string x0, .string x1, .int .i64 x2, .int .i64 x3, .int .i64 x4])
    obtain ⟨gn, hgn⟩ : ∃ z, z = w10.heap.size := ⟨_, rfl⟩
    rw [← hgn] at N11 ⊢
    clear hal hgn p0 p1 p2 p3 p4 q0 q1 q2 q3 q4 m0 m1 m2 m3 m4
    generalize (w10.alloc (Obj.cells #[.string x0, .string x1, .int .i64 x2, .int .i64 x3, .int .i64 x4] 23)) = w11 at H11 M11 N11 ⊢
    obtain ⟨m0, m1, m2, m3, m4⟩ := perm_cells M11.out
    obtain ⟨k0, k1, k2, k3, k4⟩ := perm_cells N11.out
    go_wp2_with fail
    go_ret
    exact ⟨by first | rfl | (simp; done), H11.out.bel⟩
  · have hmr := mergeRes_bad hv
    rw [hmr] at sm
    have SM := Lib.hid sm
    have SV1 := Lib.hid sv1
    by_cases hv1 : validB nm nd ev vol tot = true
    · have hv2 : validB qm qd ev' vol' tot' = false := by
        cases h : validB qm qd ev' vol' tot'
        · rfl
        · exact absurd ⟨hv1, h⟩ hv
      rw [hv1] at SV1
      rw [hv2] at sv2
      have SV2 := Lib.hid sv2
      clear hlp hlq hE hT h40 hlr st sr sm sv1 sv2 hmr hv hv1 hv2 hn1 hn2 hn3 hn4
      go_enter Tryd.func5, Tryd.ntmps5
      go_upto_region 8 with (first
        | (go_at_call 9
           with_reducible refine (SA.out _ H0.out.env).mono ?_
           rintro e w1 ⟨rfl, hb1⟩
           have H1 := Lib.hid (H0.out.call hb1)
           have B1 := Lib.hid (B0.out.call hb1)
           obtain ⟨p0, p1, p2, p3, p4⟩ := perm_cells H1.out.blk
           obtain ⟨q0, q1, q2, q3, q4⟩ := perm_cells B1.out
           clear hb1)
        | (go_at_call 10
           with_reducible refine (SLp.out _).mono ?_
           rintro e w2 ⟨rfl, hb2⟩
           have H2 := Lib.hid (H1.out.call hb2)
           have B2 := Lib.hid (B1.out.call hb2)
           obtain ⟨p0, p1, p2, p3, p4⟩ := perm_cells H2.out.blk
           obtain ⟨q0, q1, q2, q3, q4⟩ := perm_cells B2.out
           clear hb2)
        | (go_at_call 10
           with_reducible refine (SLq.out _).mono ?_
           rintro e w3 ⟨rfl, hb3⟩
           have H3 := Lib.hid (H2.out.call hb3)
           have B3 := Lib.hid (B2.out.call hb3)
           obtain ⟨p0, p1, p2, p3, p4⟩ := perm_cells H3.out.blk
           obtain ⟨q0, q1, q2, q3, q4⟩ := perm_cells B3.out
           clear hb3)
        | (go_at_call 21
           with_reducible refine (ST.out _ H3.out.ev).mono ?_
           rintro e w4 ⟨rfl, hb4⟩
           have H4 := Lib.hid (H3.out.call hb4)
           have B4 := Lib.hid (B3.out.call hb4)
           obtain ⟨p0, p1, p2, p3, p4⟩ := perm_cells H4.out.blk
           obtain ⟨q0, q1, q2, q3, q4⟩ := perm_cells B4.out
           clear hb4)
        | (go_at_call 22
           with_reducible refine (SR.out _ H4.out.ev).mono ?_
           rintro e w5 ⟨rfl, hb5⟩
           have H5 := Lib.hid (H4.out.call hb5)
           have B5 := Lib.hid (B4.out.call hb5)
           obtain ⟨p0, p1, p2, p3, p4⟩ := perm_cells H5.out.blk
           obtain ⟨q0, q1, q2, q3, q4⟩ := perm_cells B5.out
           clear hb5)
        | (go_at_call 23
           with_reducible refine (SM.out _).mono ?_
           rintro e w6 ⟨rfl, hb6⟩
           have H6 := Lib.hid (H5.out.call hb6)
           have B6 := Lib.hid (B5.out.call hb6)
           obtain ⟨p0, p1, p2, p3, p4⟩ := perm_cells H6.out.blk
           obtain ⟨q0, q1, q2, q3, q4⟩ := perm_cells B6.out
           clear hb6))
      have hal : Below w6.heap.size w6 (w6.alloc (Obj.cells #[.string ⟨#[]⟩, .string ⟨#[]⟩, .int .i64 0, .int .i64 0, .int .i64 0] 23)) := (Below.refl _ w6).alloc (Nat.le_refl _) _
      have H7 := Lib.hid (H6.out.call hal)
      have B7 := Lib.hid (B6.out.call hal)
      have M7 := Lib.hid (Blk.new w6 23 #[.string ⟨#[]⟩, .string ⟨#[]⟩, .int .i64 0, .int .i64 0, .int .i64 0])
      obtain ⟨gm, hgm⟩ : ∃ z, z = w6.heap.size := ⟨_, rfl⟩
      rw [← hgm] at M7 ⊢
      clear hal hgm p0 p1 p2 p3 p4 q0 q1 q2 q3 q4
      generalize (w6.alloc (Obj.cells #[.string ⟨#[]⟩, .string ⟨#[]⟩, .int .i64 0, .int .i64 0, .int .i64 0] 23)) = w7 at H7 B7 M7 ⊢
      obtain ⟨p0, p1, p2, p3, p4⟩ := perm_cells H7.out.blk
      obtain ⟨q0, q1, q2, q3, q4⟩ := perm_cells B7.out
      obtain ⟨m0, m1, m2, m3, m4⟩ := perm_cells M7.out

      go_wp2_with (first
        | (go_at_call 19
           with_reducible refine (SV1.out _).mono ?_
           rintro e w8 ⟨rfl, hb8⟩
           have H8 := Lib.hid (H7.out.call hb8)
           have B8 := Lib.hid (B7.out.call hb8)
           obtain ⟨p0, p1, p2, p3, p4⟩ := perm_cells H8.out.blk
           obtain ⟨q0, q1, q2, q3, q4⟩ := perm_cells B8.out
           have M8 := Lib.hid (M7.out.call hb8)
           obtain ⟨m0, m1, m2, m3, m4⟩ := perm_cells M8.out
           clear hb8)
        | (go_at_call 19
           with_reducible refine (SV2.out _).mono ?_
           rintro e w9 ⟨rfl, hb9⟩
           have H9 := Lib.hid (H8.out.call hb9)
           have B9 := Lib.hid (B8.out.call hb9)
           obtain ⟨p0, p1, p2, p3, p4⟩ := perm_cells H9.out.blk
           obtain ⟨q0, q1, q2, q3, q4⟩ := perm_cells B9.out
           have M9 := Lib.hid (M8.out.call hb9)
           obtain ⟨m0, m1, m2, m3, m4⟩ := perm_cells M9.out
           clear hb9))
      go_ret
      exact ⟨by first | rfl | (simp; done), H9.out.bel⟩
    · have hv2 : validB nm nd ev vol tot = false := by
        cases h : validB nm nd ev vol tot
        · rfl
        · exact absurd h hv1
      rw [hv2] at SV1
      clear hlp hlq hE hT h40 hlr st sr sm sv1 sv2 hmr hv hv1 hv2 hn1 hn2 hn3 hn4
      go_enter Tryd.func5, Tryd.ntmps5
      go_upto_region 8 with (first
        | (go_at_call 9
           with_reducible refine (SA.out _ H0.out.env).mono ?_
           rintro e w1 ⟨rfl, hb1⟩
           have H1 := Lib.hid (H0.out.call hb1)
           have B1 := Lib.hid (B0.out.call hb1)
           obtain ⟨p0, p1, p2, p3, p4⟩ := perm_cells H1.out.blk
           obtain ⟨q0, q1, q2, q3, q4⟩ := perm_cells B1.out
           clear hb1)
        | (go_at_call 10
           with_reducible refine (SLp.out _).mono ?_
           rintro e w2 ⟨rfl, hb2⟩
           have H2 := Lib.hid (H1.out.call hb2)
           have B2 := Lib.hid (B1.out.call hb2)
           obtain ⟨p0, p1, p2, p3, p4⟩ := perm_cells H2.out.blk
           obtain ⟨q0, q1, q2, q3, q4⟩ := perm_cells B2.out
           clear hb2)
        | (go_at_call 10
           with_reducible refine (SLq.out _).mono ?_
           rintro e w3 ⟨rfl, hb3⟩
           have H3 := Lib.hid (H2.out.call hb3)
           have B3 := Lib.hid (B2.out.call hb3)
           obtain ⟨p0, p1, p2, p3, p4⟩ := perm_cells H3.out.blk
           obtain ⟨q0, q1, q2, q3, q4⟩ := perm_cells B3.out
           clear hb3)
        | (go_at_call 21
           with_reducible refine (ST.out _ H3.out.ev).mono ?_
           rintro e w4 ⟨rfl, hb4⟩
           have H4 := Lib.hid (H3.out.call hb4)
           have B4 := Lib.hid (B3.out.call hb4)
           obtain ⟨p0, p1, p2, p3, p4⟩ := perm_cells H4.out.blk
           obtain ⟨q0, q1, q2, q3, q4⟩ := perm_cells B4.out
           clear hb4)
        | (go_at_call 22
           with_reducible refine (SR.out _ H4.out.ev).mono ?_
           rintro e w5 ⟨rfl, hb5⟩
           have H5 := Lib.hid (H4.out.call hb5)
           have B5 := Lib.hid (B4.out.call hb5)
           obtain ⟨p0, p1, p2, p3, p4⟩ := perm_cells H5.out.blk
           obtain ⟨q0, q1, q2, q3, q4⟩ := perm_cells B5.out
           clear hb5)
        | (go_at_call 23
           with_reducible refine (SM.out _).mono ?_
           rintro e w6 ⟨rfl, hb6⟩
           have H6 := Lib.hid (H5.out.call hb6)
           have B6 := Lib.hid (B5.out.call hb6)
           obtain ⟨p0, p1, p2, p3, p4⟩ := perm_cells H6.out.blk
           obtain ⟨q0, q1, q2, q3, q4⟩ := perm_cells B6.out
           clear hb6))
      have hal : Below w6.heap.size w6 (w6.alloc (Obj.cells #[.string ⟨#[]⟩, .string ⟨#[]⟩, .int .i64 0, .int .i64 0, .int .i64 0] 23)) := (Below.refl _ w6).alloc (Nat.le_refl _) _
      have H7 := Lib.hid (H6.out.call hal)
      have B7 := Lib.hid (B6.out.call hal)
      have M7 := Lib.hid (Blk.new w6 23 #[.string ⟨#[]⟩, .string ⟨#[]⟩, .int .i64 0, .int .i64 0, .int .i64 0])
      obtain ⟨gm, hgm⟩ : ∃ z, z = w6.heap.size := ⟨_, rfl⟩
      rw [← hgm] at M7 ⊢
      clear hal hgm p0 p1 p2 p3 p4 q0 q1 q2 q3 q4
      generalize (w6.alloc (Obj.cells #[.string ⟨#[]⟩, .string ⟨#[]⟩, .int .i64 0, .int .i64 0, .int .i64 0] 23)) = w7 at H7 B7 M7 ⊢
      obtain ⟨p0, p1, p2, p3, p4⟩ := perm_cells H7.out.blk
      obtain ⟨q0, q1, q2, q3, q4⟩ := perm_cells B7.out
      obtain ⟨m0, m1, m2, m3, m4⟩ := perm_cells M7.out

      go_wp2_with (first
        | (go_at_call 19
           with_reducible refine (SV1.out _).mono ?_
           rintro e w8 ⟨rfl, hb8⟩
           have H8 := Lib.hid (H7.out.call hb8)
           have B8 := Lib.hid (B7.out.call hb8)
           obtain ⟨p0, p1, p2, p3, p4⟩ := perm_cells H8.out.blk
           obtain ⟨q0, q1, q2, q3, q4⟩ := perm_cells B8.out
           have M8 := Lib.hid (M7.out.call hb8)
           obtain ⟨m0, m1, m2, m3, m4⟩ := perm_cells M8.out
           clear hb8))
      go_ret
      exact ⟨by first | rfl | (simp; done), H8.out.bel⟩
end Go.Proofs.YtgbnbafigjijmaaDoor

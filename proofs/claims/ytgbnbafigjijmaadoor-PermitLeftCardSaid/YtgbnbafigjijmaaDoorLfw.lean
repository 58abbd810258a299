/- The walk of the law PermitLeft. -/
import Derived.Test.YtgbnbafigjijmaaDoorBrk
import Derived.Test.YtgbnbafigjijmaaDoorAtt
namespace Go.Proofs.YtgbnbafigjijmaaDoor
open Go.RowKit Go.Maps
set_option linter.unusedVariables false
set_option linter.unusedSimpArgs false

theorem leftE_zero {ok : Prop} {E : Evs} {n : Nat} {from_ sec t : Int} (h : leftE ok E n from_ sec t = 0) : yErr ok E n from_ sec = 0 ∧ errOf t = 0 := by
  unfold leftE at h
  split at h
  · rename_i h0; exact ⟨h0, h⟩
  · contradiction
theorem leftE_of {ok : Prop} {E : Evs} {n : Nat} {from_ sec t : Int} (h : yErr ok E n from_ sec = 0) (h2 : errOf t = 0) : leftE ok E n from_ sec t = 0 := by
  unfold leftE; rw [if_pos h]; exact h2
/-- At the beginning of a year nothing counts. -/
theorem left_begin {E : Evs} {n : Nat} {from_ sec t y ev tot : Int} (hT : ∀ i, i < n → TimeIs (from_ + sec * E.F i) (yrs E from_ sec i) 0) (ht : t = yb y * 86400) (hy : yearOf t = y) (he : 0 ≤ ev) (ho : 0 ≤ tot) :
    leftN E n from_ sec t ev = ev ∧ leftV E n from_ sec t tot = tot := by
  have hc : ∀ i, i < n → cntAt E from_ sec t i = false := by
    intro i hi
    unfold cntAt
    refine decide_eq_false ?_
    rintro ⟨h1, h2⟩
    rw [hy] at h1
    have h3 := hT i hi
    rw [h1] at h3
    cases h3 with
    | ok h4 h5 =>
      have := h5.a
      omega
  unfold leftN leftV
  rw [cntW_none hc, smW_none hc, cut_zero]
  omega
/-- What is left does not grow. -/
theorem left_mono {E : Evs} {n : Nat} {from_ sec t u ev tot : Int} (hT : ∀ i, i < n → 0 ≤ E.Tot i) (htu : t ≤ u) (hy : yearOf t = yearOf u) : leftN E n from_ sec u ev ≤ leftN E n from_ sec t ev ∧ leftV E n from_ sec u tot ≤ leftV E n from_ sec t tot := by
  have hc : ∀ i, i < n → cntAt E from_ sec t i = true → cntAt E from_ sec u i = true := by
    intro i hi h
    unfold cntAt at h ⊢
    have h1 := of_decide_eq_true h
    exact decide_eq_true ⟨by rw [← hy]; exact h1.1, by omega⟩
  have h1 := cntW_mono hc
  have h2 := smW_mono hT hc
  unfold leftN leftV
  unfold cutS
  constructor
  · omega
  · split <;> split <;> omega
theorem left_bounds {E : Evs} {n : Nat} {from_ sec t ev tot : Int} (hT : ∀ i, i < n → 0 ≤ E.Tot i) (he : 0 ≤ ev) (ho : 0 ≤ tot) : 0 ≤ leftN E n from_ sec t ev ∧ leftN E n from_ sec t ev ≤ ev ∧ 0 ≤ leftV E n from_ sec t tot ∧ leftV E n from_ sec t tot ≤ tot := by
  have h2 := cut_nn (smW_nn (P := cntAt E from_ sec t) n hT)
  unfold leftN leftV
  omega
theorem left_ok {ok : Prop} {E : Evs} {n : Nat} {from_ sec t ev tot : Int} (h : leftE ok E n from_ sec t = 0) : leftRes ok E n from_ sec t ev tot = .tuple #[.int .i64 (leftN E n from_ sec t ev), .int .i64 (leftV E n from_ sec t tot), .int .i64 0] := by
  unfold leftRes; rw [if_pos h]
set_option maxRecDepth 100000 in
set_option maxHeartbeats 8000000 in
theorem left_walk (nm nd : ByteArray) (ev vol tot : Int) (hn1 : nm.size ≤ maxLen) (hn2 : nd.size ≤ maxLen) (A : Option Addr) (n c : Nat) (E : Evs) (from_ sec t : Int) (later : Int) (hl0 : 0 ≤ later) (hl1 : later ≤ 4294967295) (w : World) (hE : Env w) (hT : EvIn w A n E) :
    Calls Tryd.prog 7 #[.agg #[.string nm, .string nd, .int .i64 ev, .int .i64 vol, .int .i64 tot], .slice A n c, .int .i64 from_, .int .i64 sec, .int .i64 t, .int .u32 later] w fun e w' => e = .returned (.bool true) ∧ Below w.heap.size w w' := by
  have SA := Lib.hid fun w hE => caw w hE
  have SL := Lib.hid fun w => tlong nm nd ev vol tot w
  have H0 := Lib.hid (LCtx.start w #[.string nm, .string nd, .int .i64 ev, .int .i64 vol, .int .i64 tot] hE hT)
  by_cases hlong : 60 < nm.size ∨ 60 < nd.size
  · rw [decide_eq_true hlong] at SL
    clear hlong hE hT hl0 hl1
    go_enter Tryd.func7, Tryd.ntmps7
    go_wp2_with (first
      | (go_at_call 9
         with_reducible refine (SA.out _ H0.out.env).mono ?_
         rintro e w1 ⟨rfl, hb1⟩
         have H1 := Lib.hid (H0.out.call hb1)
         obtain ⟨p0, p1, p2, p3, p4⟩ := perm_cells H1.out.blk
         clear hb1)
      | (go_at_call 10
         with_reducible refine (SL.out _).mono ?_
         rintro e w2 ⟨rfl, hb2⟩
         have H2 := Lib.hid (H1.out.call hb2)
         clear hb2))
    go_ret
    exact ⟨rfl, H2.out.bel⟩
  rw [decide_eq_false hlong] at SL
  by_cases h40 : 40 < n
  · have t1 : decide ((40 : Int) < (n : Int)) = true := decide_eq_true (by omega)
    have t1' : decide (40 < n) = true := decide_eq_true h40
    clear hlong hE hT h40 hl0 hl1
    go_enter Tryd.func7, Tryd.ntmps7
    go_wp2_with (first
      | (go_at_call 9
         with_reducible refine (SA.out _ H0.out.env).mono ?_
         rintro e w1 ⟨rfl, hb1⟩
         have H1 := Lib.hid (H0.out.call hb1)
         obtain ⟨p0, p1, p2, p3, p4⟩ := perm_cells H1.out.blk
         clear hb1)
      | (go_at_call 10
         with_reducible refine (SL.out _).mono ?_
         rintro e w2 ⟨rfl, hb2⟩
         have H2 := Lib.hid (H1.out.call hb2)
         clear hb2))
    go_ret
    exact ⟨rfl, H2.out.bel⟩
  have t1 : decide ((40 : Int) < (n : Int)) = false := decide_eq_false (by omega)
  have t1' : decide (40 < n) = false := decide_eq_false h40
  have st := fun w hT => tleft nm nd ev vol tot hn1 hn2 A n c E from_ sec t (by omega) w hT
  by_cases h0 : leftE (validB nm nd ev vol tot = true) E n from_ sec t = 0
  · obtain ⟨he, het⟩ := leftE_zero h0
    obtain ⟨hok, hrp, hst, hyr⟩ := yErr_zero he
    have hlim := (validB_true.1 hok).2.2
    unfold limR at hlim
    have hTn : ∀ i, i < n → 0 ≤ E.Tot i := fun i hi => by have := hrp.bounds hi; omega
    rw [left_ok h0] at st
    have hbd := left_bounds (E := E) (n := n) (from_ := from_) (sec := sec) (t := t) (ev := ev) (tot := tot) hTn hlim.1 hlim.2.2.2.2.1
    have htm := time_is t
    rw [het] at htm
    obtain ⟨y, hy⟩ : ∃ z, z = yearOf t := ⟨_, rfl⟩
    rw [← hy] at htm
    have hy1 := htm.lo
    have hy2 := htm.bound
    have hti : InstP t := by cases htm with | ok h _ => exact h
    have SS := Lib.hid fun w => tsplit t y 0 htm w
    have sat := fun w => tat y hy1 hy2.2 w
    obtain ⟨u, hu⟩ : ∃ z, z = t + later := ⟨_, rfl⟩
    have xu : IntKind.i64.wrap (t + later) = u := by unfold InstP at hti; rw [IntKind.wrap_i64]; omega
    have xc : IntKind.i64.wrap later = later := by rw [IntKind.wrap_i64]; omega
    obtain ⟨yu, hyu⟩ : ∃ z, z = yearOf u := ⟨_, rfl⟩
    obtain ⟨eu, heu⟩ : ∃ z, z = errOf u := ⟨_, rfl⟩
    have sup := fun w => tsplit u yu eu (by rw [hyu, heu]; exact time_is u) w
    have SU := Lib.hid sup
    have sl := fun w hT => tleft nm nd ev vol tot hn1 hn2 A n c E from_ sec u (by omega) w hT
    have hmo := fun (h : yu = y) => left_mono (E := E) (n := n) (from_ := from_) (sec := sec) (t := t) (u := u) (ev := ev) (tot := tot) hTn (by omega) (by rw [← hy, ← hyu, h])
    have hlu := fun (h : eu = 0) => left_ok (ev := ev) (tot := tot) (leftE_of (t := u) he (heu.symm.trans h))
    generalize leftN E n from_ sec t ev = N at st hbd hmo
    generalize leftV E n from_ sec t tot = V at st hbd hmo
    have ST := Lib.hid st
    have g1 : decide (N < 0) = false := decide_eq_false (by omega)
    have g2 : decide (ev < N) = false := decide_eq_false (by omega)
    have g3 : decide (V < 0) = false := decide_eq_false (by omega)
    have g4 : decide (tot < V) = false := decide_eq_false (by omega)
    obtain ⟨t0, ht0⟩ : ∃ z, z = yb y * 86400 := ⟨_, rfl⟩
    rw [← ht0] at sat
    have sb := fun w hT => tleft nm nd ev vol tot hn1 hn2 A n c E from_ sec t0 (by omega) w hT
    have hb0 : InstP t0 → leftRes (validB nm nd ev vol tot = true) E n from_ sec t0 ev tot = .tuple #[.int .i64 ev, .int .i64 tot, .int .i64 0] := by
      intro hI
      have hyi : YearIs (t0 / 86400) y := by
        have e : t0 / 86400 = yb y := by omega
        rw [e]
        have h3 := yb_lt (show y < y + 1 by omega)
        exact ⟨hy1, hy2.2, Int.le_refl _, by omega⟩
      obtain ⟨e1, e2⟩ := time_eq (TimeIs.ok hI hyi)
      rw [left_ok (leftE_of he e2)]
      obtain ⟨f1, f2⟩ := left_begin hyr ht0 e1 hlim.1 hlim.2.2.2.2.1
      rw [f1, f2]
    clear hlong h40 hE hT hok hrp hst hyr hlim hTn hbd htm hy hy1 hy2 hti sup st hl0 hl1 h0 he het hu hyu heu ht0 hn1 hn2
    by_cases hI : InstP t0
    · rw [if_pos hI] at sat
      have sb2 := sb
      rw [hb0 hI] at sb2
      have SAT := Lib.hid sat
      have SB := Lib.hid sb2
      clear hb0 hI sat sb sb2
      by_cases hz : eu = 0
      case neg =>
        have n1 : (eu == 0) = false := by simp [hz]
        clear hz hlu hmo sl
        go_enter Tryd.func7, Tryd.ntmps7
        go_wp2_with (first
          | (go_at_call 9
             with_reducible refine (SA.out _ H0.out.env).mono ?_
             rintro e w1 ⟨rfl, hb1⟩
             have H1 := Lib.hid (H0.out.call hb1)
             obtain ⟨p0, p1, p2, p3, p4⟩ := perm_cells H1.out.blk
             clear hb1)
          | (go_at_call 10
             with_reducible refine (SL.out _).mono ?_
             rintro e w2 ⟨rfl, hb2⟩
             have H2 := Lib.hid (H1.out.call hb2)
             obtain ⟨p0, p1, p2, p3, p4⟩ := perm_cells H2.out.blk
             clear hb2)
          | (go_at_call 21
             with_reducible refine (ST.out _ H2.out.ev).mono ?_
             rintro e w3 ⟨rfl, hb3⟩
             have H3 := Lib.hid (H2.out.call hb3)
             obtain ⟨p0, p1, p2, p3, p4⟩ := perm_cells H3.out.blk
             clear hb3)
          | (go_at_call 12
             with_reducible refine (SS.out _).mono ?_
             rintro e w4 ⟨⟨mo, da, se, rfl⟩, hb4⟩
             have H4 := Lib.hid (H3.out.call hb4)
             obtain ⟨p0, p1, p2, p3, p4⟩ := perm_cells H4.out.blk
             have pl := H4.out.blk.lt
             have H4a := Lib.hid (H4.out.alloc (Obj.cells #[.int .i64 y, .int .i64 mo, .int .i64 da] 35))
             have D4a := Lib.hid (Blk.new w4 35 #[.int .i64 y, .int .i64 mo, .int .i64 da])
             clear hb4)
          | (go_at_call 27
             with_reducible refine (SAT.out _).mono ?_
             rintro e w5 ⟨rfl, hb5⟩
             have H5 := Lib.hid (H4a.out.call hb5)
             have D5 := Lib.hid (D4a.out.call hb5)
             obtain ⟨p0, p1, p2, p3, p4⟩ := perm_cells H5.out.blk
             obtain ⟨d0, d1, d2⟩ := date_cells D5.out
             clear hb5)
          | (go_at_call 21
             with_reducible refine (SB.out _ H5.out.ev).mono ?_
             rintro e w6 ⟨rfl, hb6⟩
             have H6 := Lib.hid (H5.out.call hb6)
             have D6 := Lib.hid (D5.out.call hb6)
             obtain ⟨p0, p1, p2, p3, p4⟩ := perm_cells H6.out.blk
             obtain ⟨d0, d1, d2⟩ := date_cells D6.out
             clear hb6)
          | (go_at_call 12
             with_reducible refine (SU.out _).mono ?_
             rintro e w7 ⟨⟨mo2, da2, se2, rfl⟩, hb7⟩
             have H7 := Lib.hid (H6.out.call hb7)
             have D7 := Lib.hid (D6.out.call hb7)
             obtain ⟨p0, p1, p2, p3, p4⟩ := perm_cells H7.out.blk
             obtain ⟨d0, d1, d2⟩ := date_cells D7.out
             have pl := H7.out.blk.lt
             have dl := D7.out.lt
             have H7a := Lib.hid (H7.out.alloc (Obj.cells #[.int .i64 yu, .int .i64 mo2, .int .i64 da2] 35))
             clear hb7))
        go_ret
        exact ⟨rfl, H7a.out.bel⟩
      subst hz
      by_cases hyy : yu = y
      case neg =>
        have n1 : (yu == y) = false := by simp [hyy]
        clear hyy hlu hmo sl
        go_enter Tryd.func7, Tryd.ntmps7
        go_wp2_with (first
          | (go_at_call 9
             with_reducible refine (SA.out _ H0.out.env).mono ?_
             rintro e w1 ⟨rfl, hb1⟩
             have H1 := Lib.hid (H0.out.call hb1)
             obtain ⟨p0, p1, p2, p3, p4⟩ := perm_cells H1.out.blk
             clear hb1)
          | (go_at_call 10
             with_reducible refine (SL.out _).mono ?_
             rintro e w2 ⟨rfl, hb2⟩
             have H2 := Lib.hid (H1.out.call hb2)
             obtain ⟨p0, p1, p2, p3, p4⟩ := perm_cells H2.out.blk
             clear hb2)
          | (go_at_call 21
             with_reducible refine (ST.out _ H2.out.ev).mono ?_
             rintro e w3 ⟨rfl, hb3⟩
             have H3 := Lib.hid (H2.out.call hb3)
             obtain ⟨p0, p1, p2, p3, p4⟩ := perm_cells H3.out.blk
             clear hb3)
          | (go_at_call 12
             with_reducible refine (SS.out _).mono ?_
             rintro e w4 ⟨⟨mo, da, se, rfl⟩, hb4⟩
             have H4 := Lib.hid (H3.out.call hb4)
             obtain ⟨p0, p1, p2, p3, p4⟩ := perm_cells H4.out.blk
             have pl := H4.out.blk.lt
             have H4a := Lib.hid (H4.out.alloc (Obj.cells #[.int .i64 y, .int .i64 mo, .int .i64 da] 35))
             have D4a := Lib.hid (Blk.new w4 35 #[.int .i64 y, .int .i64 mo, .int .i64 da])
             clear hb4)
          | (go_at_call 27
             with_reducible refine (SAT.out _).mono ?_
             rintro e w5 ⟨rfl, hb5⟩
             have H5 := Lib.hid (H4a.out.call hb5)
             have D5 := Lib.hid (D4a.out.call hb5)
             obtain ⟨p0, p1, p2, p3, p4⟩ := perm_cells H5.out.blk
             obtain ⟨d0, d1, d2⟩ := date_cells D5.out
             clear hb5)
          | (go_at_call 21
             with_reducible refine (SB.out _ H5.out.ev).mono ?_
             rintro e w6 ⟨rfl, hb6⟩
             have H6 := Lib.hid (H5.out.call hb6)
             have D6 := Lib.hid (D5.out.call hb6)
             obtain ⟨p0, p1, p2, p3, p4⟩ := perm_cells H6.out.blk
             obtain ⟨d0, d1, d2⟩ := date_cells D6.out
             clear hb6)
          | (go_at_call 12
             with_reducible refine (SU.out _).mono ?_
             rintro e w7 ⟨⟨mo2, da2, se2, rfl⟩, hb7⟩
             have H7 := Lib.hid (H6.out.call hb7)
             have D7 := Lib.hid (D6.out.call hb7)
             obtain ⟨p0, p1, p2, p3, p4⟩ := perm_cells H7.out.blk
             obtain ⟨d0, d1, d2⟩ := date_cells D7.out
             have pl := H7.out.blk.lt
             have dl := D7.out.lt
             have H7a := Lib.hid (H7.out.alloc (Obj.cells #[.int .i64 yu, .int .i64 mo2, .int .i64 da2] 35))
             clear hb7))
        go_ret
        exact ⟨rfl, H7a.out.bel⟩
      subst hyy
      rw [hlu rfl] at sl
      have hm := hmo rfl
      have m1 : decide (leftN E n from_ sec u ev ≤ N) = true := decide_eq_true hm.1
      have m2 : decide (leftV E n from_ sec u tot ≤ V) = true := decide_eq_true hm.2
      have SLU := Lib.hid sl
      clear hlu hmo sl hm
      go_enter Tryd.func7, Tryd.ntmps7
      go_wp2_with (first
        | (go_at_call 9
           with_reducible refine (SA.out _ H0.out.env).mono ?_
           rintro e w1 ⟨rfl, hb1⟩
           have H1 := Lib.hid (H0.out.call hb1)
           obtain ⟨p0, p1, p2, p3, p4⟩ := perm_cells H1.out.blk
           clear hb1)
        | (go_at_call 10
           with_reducible refine (SL.out _).mono ?_
           rintro e w2 ⟨rfl, hb2⟩
           have H2 := Lib.hid (H1.out.call hb2)
           obtain ⟨p0, p1, p2, p3, p4⟩ := perm_cells H2.out.blk
           clear hb2)
        | (go_at_call 21
           with_reducible refine (ST.out _ H2.out.ev).mono ?_
           rintro e w3 ⟨rfl, hb3⟩
           have H3 := Lib.hid (H2.out.call hb3)
           obtain ⟨p0, p1, p2, p3, p4⟩ := perm_cells H3.out.blk
           clear hb3)
        | (go_at_call 12
           with_reducible refine (SS.out _).mono ?_
           rintro e w4 ⟨⟨mo, da, se, rfl⟩, hb4⟩
           have H4 := Lib.hid (H3.out.call hb4)
           obtain ⟨p0, p1, p2, p3, p4⟩ := perm_cells H4.out.blk
           have pl := H4.out.blk.lt
           have H4a := Lib.hid (H4.out.alloc (Obj.cells #[.int .i64 yu, .int .i64 mo, .int .i64 da] 35))
           have D4a := Lib.hid (Blk.new w4 35 #[.int .i64 yu, .int .i64 mo, .int .i64 da])
           clear hb4)
        | (go_at_call 27
           with_reducible refine (SAT.out _).mono ?_
           rintro e w5 ⟨rfl, hb5⟩
           have H5 := Lib.hid (H4a.out.call hb5)
           have D5 := Lib.hid (D4a.out.call hb5)
           obtain ⟨p0, p1, p2, p3, p4⟩ := perm_cells H5.out.blk
           obtain ⟨d0, d1, d2⟩ := date_cells D5.out
           clear hb5)
        | (go_at_call 21
           with_reducible refine (SB.out _ H5.out.ev).mono ?_
           rintro e w6 ⟨rfl, hb6⟩
           have H6 := Lib.hid (H5.out.call hb6)
           have D6 := Lib.hid (D5.out.call hb6)
           obtain ⟨p0, p1, p2, p3, p4⟩ := perm_cells H6.out.blk
           obtain ⟨d0, d1, d2⟩ := date_cells D6.out
           clear hb6)
        | (go_at_call 12
           with_reducible refine (SU.out _).mono ?_
           rintro e w7 ⟨⟨mo2, da2, se2, rfl⟩, hb7⟩
           have H7 := Lib.hid (H6.out.call hb7)
           have D7 := Lib.hid (D6.out.call hb7)
           obtain ⟨p0, p1, p2, p3, p4⟩ := perm_cells H7.out.blk
           obtain ⟨d0, d1, d2⟩ := date_cells D7.out
           have pl := H7.out.blk.lt
           have dl := D7.out.lt
           have H7a := Lib.hid (H7.out.alloc (Obj.cells #[.int .i64 yu, .int .i64 mo2, .int .i64 da2] 35))
           clear hb7)
        | (go_at_call 21
           with_reducible refine (SLU.out _ H7a.out.ev).mono ?_
           rintro e w8 ⟨rfl, hb8⟩
           have H8 := Lib.hid (H7a.out.call hb8)
           clear hb8))
      go_ret
      exact ⟨rfl, H8.out.bel⟩
    · rw [if_neg hI] at sat
      have SAT := Lib.hid sat
      clear hb0 hI sat sb
      by_cases hz : eu = 0
      case neg =>
        have n1 : (eu == 0) = false := by simp [hz]
        clear hz hlu hmo sl
        go_enter Tryd.func7, Tryd.ntmps7
        go_wp2_with (first
          | (go_at_call 9
             with_reducible refine (SA.out _ H0.out.env).mono ?_
             rintro e w1 ⟨rfl, hb1⟩
             have H1 := Lib.hid (H0.out.call hb1)
             obtain ⟨p0, p1, p2, p3, p4⟩ := perm_cells H1.out.blk
             clear hb1)
          | (go_at_call 10
             with_reducible refine (SL.out _).mono ?_
             rintro e w2 ⟨rfl, hb2⟩
             have H2 := Lib.hid (H1.out.call hb2)
             obtain ⟨p0, p1, p2, p3, p4⟩ := perm_cells H2.out.blk
             clear hb2)
          | (go_at_call 21
             with_reducible refine (ST.out _ H2.out.ev).mono ?_
             rintro e w3 ⟨rfl, hb3⟩
             have H3 := Lib.hid (H2.out.call hb3)
             obtain ⟨p0, p1, p2, p3, p4⟩ := perm_cells H3.out.blk
             clear hb3)
          | (go_at_call 12
             with_reducible refine (SS.out _).mono ?_
             rintro e w4 ⟨⟨mo, da, se, rfl⟩, hb4⟩
             have H4 := Lib.hid (H3.out.call hb4)
             obtain ⟨p0, p1, p2, p3, p4⟩ := perm_cells H4.out.blk
             have pl := H4.out.blk.lt
             have H4a := Lib.hid (H4.out.alloc (Obj.cells #[.int .i64 y, .int .i64 mo, .int .i64 da] 35))
             have D4a := Lib.hid (Blk.new w4 35 #[.int .i64 y, .int .i64 mo, .int .i64 da])
             clear hb4)
          | (go_at_call 27
             with_reducible refine (SAT.out _).mono ?_
             rintro e w5 ⟨rfl, hb5⟩
             have H5 := Lib.hid (H4a.out.call hb5)
             have D5 := Lib.hid (D4a.out.call hb5)
             obtain ⟨p0, p1, p2, p3, p4⟩ := perm_cells H5.out.blk
             obtain ⟨d0, d1, d2⟩ := date_cells D5.out
             clear hb5)
          | (go_at_call 12
             with_reducible refine (SU.out _).mono ?_
             rintro e w7 ⟨⟨mo2, da2, se2, rfl⟩, hb7⟩
             have H7 := Lib.hid (H5.out.call hb7)
             have D7 := Lib.hid (D5.out.call hb7)
             obtain ⟨p0, p1, p2, p3, p4⟩ := perm_cells H7.out.blk
             obtain ⟨d0, d1, d2⟩ := date_cells D7.out
             have pl := H7.out.blk.lt
             have dl := D7.out.lt
             have H7a := Lib.hid (H7.out.alloc (Obj.cells #[.int .i64 yu, .int .i64 mo2, .int .i64 da2] 35))
             clear hb7))
        go_ret
        exact ⟨rfl, H7a.out.bel⟩
      subst hz
      by_cases hyy : yu = y
      case neg =>
        have n1 : (yu == y) = false := by simp [hyy]
        clear hyy hlu hmo sl
        go_enter Tryd.func7, Tryd.ntmps7
        go_wp2_with (first
          | (go_at_call 9
             with_reducible refine (SA.out _ H0.out.env).mono ?_
             rintro e w1 ⟨rfl, hb1⟩
             have H1 := Lib.hid (H0.out.call hb1)
             obtain ⟨p0, p1, p2, p3, p4⟩ := perm_cells H1.out.blk
             clear hb1)
          | (go_at_call 10
             with_reducible refine (SL.out _).mono ?_
             rintro e w2 ⟨rfl, hb2⟩
             have H2 := Lib.hid (H1.out.call hb2)
             obtain ⟨p0, p1, p2, p3, p4⟩ := perm_cells H2.out.blk
             clear hb2)
          | (go_at_call 21
             with_reducible refine (ST.out _ H2.out.ev).mono ?_
             rintro e w3 ⟨rfl, hb3⟩
             have H3 := Lib.hid (H2.out.call hb3)
             obtain ⟨p0, p1, p2, p3, p4⟩ := perm_cells H3.out.blk
             clear hb3)
          | (go_at_call 12
             with_reducible refine (SS.out _).mono ?_
             rintro e w4 ⟨⟨mo, da, se, rfl⟩, hb4⟩
             have H4 := Lib.hid (H3.out.call hb4)
             obtain ⟨p0, p1, p2, p3, p4⟩ := perm_cells H4.out.blk
             have pl := H4.out.blk.lt
             have H4a := Lib.hid (H4.out.alloc (Obj.cells #[.int .i64 y, .int .i64 mo, .int .i64 da] 35))
             have D4a := Lib.hid (Blk.new w4 35 #[.int .i64 y, .int .i64 mo, .int .i64 da])
             clear hb4)
          | (go_at_call 27
             with_reducible refine (SAT.out _).mono ?_
             rintro e w5 ⟨rfl, hb5⟩
             have H5 := Lib.hid (H4a.out.call hb5)
             have D5 := Lib.hid (D4a.out.call hb5)
             obtain ⟨p0, p1, p2, p3, p4⟩ := perm_cells H5.out.blk
             obtain ⟨d0, d1, d2⟩ := date_cells D5.out
             clear hb5)
          | (go_at_call 12
             with_reducible refine (SU.out _).mono ?_
             rintro e w7 ⟨⟨mo2, da2, se2, rfl⟩, hb7⟩
             have H7 := Lib.hid (H5.out.call hb7)
             have D7 := Lib.hid (D5.out.call hb7)
             obtain ⟨p0, p1, p2, p3, p4⟩ := perm_cells H7.out.blk
             obtain ⟨d0, d1, d2⟩ := date_cells D7.out
             have pl := H7.out.blk.lt
             have dl := D7.out.lt
             have H7a := Lib.hid (H7.out.alloc (Obj.cells #[.int .i64 yu, .int .i64 mo2, .int .i64 da2] 35))
             clear hb7))
        go_ret
        exact ⟨rfl, H7a.out.bel⟩
      subst hyy
      rw [hlu rfl] at sl
      have hm := hmo rfl
      have m1 : decide (leftN E n from_ sec u ev ≤ N) = true := decide_eq_true hm.1
      have m2 : decide (leftV E n from_ sec u tot ≤ V) = true := decide_eq_true hm.2
      have SLU := Lib.hid sl
      clear hlu hmo sl hm
      go_enter Tryd.func7, Tryd.ntmps7
      go_wp2_with (first
        | (go_at_call 9
           with_reducible refine (SA.out _ H0.out.env).mono ?_
           rintro e w1 ⟨rfl, hb1⟩
           have H1 := Lib.hid (H0.out.call hb1)
           obtain ⟨p0, p1, p2, p3, p4⟩ := perm_cells H1.out.blk
           clear hb1)
        | (go_at_call 10
           with_reducible refine (SL.out _).mono ?_
           rintro e w2 ⟨rfl, hb2⟩
           have H2 := Lib.hid (H1.out.call hb2)
           obtain ⟨p0, p1, p2, p3, p4⟩ := perm_cells H2.out.blk
           clear hb2)
        | (go_at_call 21
           with_reducible refine (ST.out _ H2.out.ev).mono ?_
           rintro e w3 ⟨rfl, hb3⟩
           have H3 := Lib.hid (H2.out.call hb3)
           obtain ⟨p0, p1, p2, p3, p4⟩ := perm_cells H3.out.blk
           clear hb3)
        | (go_at_call 12
           with_reducible refine (SS.out _).mono ?_
           rintro e w4 ⟨⟨mo, da, se, rfl⟩, hb4⟩
           have H4 := Lib.hid (H3.out.call hb4)
           obtain ⟨p0, p1, p2, p3, p4⟩ := perm_cells H4.out.blk
           have pl := H4.out.blk.lt
           have H4a := Lib.hid (H4.out.alloc (Obj.cells #[.int .i64 yu, .int .i64 mo, .int .i64 da] 35))
           have D4a := Lib.hid (Blk.new w4 35 #[.int .i64 yu, .int .i64 mo, .int .i64 da])
           clear hb4)
        | (go_at_call 27
           with_reducible refine (SAT.out _).mono ?_
           rintro e w5 ⟨rfl, hb5⟩
           have H5 := Lib.hid (H4a.out.call hb5)
           have D5 := Lib.hid (D4a.out.call hb5)
           obtain ⟨p0, p1, p2, p3, p4⟩ := perm_cells H5.out.blk
           obtain ⟨d0, d1, d2⟩ := date_cells D5.out
           clear hb5)
        | (go_at_call 12
           with_reducible refine (SU.out _).mono ?_
           rintro e w7 ⟨⟨mo2, da2, se2, rfl⟩, hb7⟩
           have H7 := Lib.hid (H5.out.call hb7)
           have D7 := Lib.hid (D5.out.call hb7)
           obtain ⟨p0, p1, p2, p3, p4⟩ := perm_cells H7.out.blk
           obtain ⟨d0, d1, d2⟩ := date_cells D7.out
           have pl := H7.out.blk.lt
           have dl := D7.out.lt
           have H7a := Lib.hid (H7.out.alloc (Obj.cells #[.int .i64 yu, .int .i64 mo2, .int .i64 da2] 35))
           clear hb7)
        | (go_at_call 21
           with_reducible refine (SLU.out _ H7a.out.ev).mono ?_
           rintro e w8 ⟨rfl, hb8⟩
           have H8 := Lib.hid (H7a.out.call hb8)
           clear hb8))
      go_ret
      exact ⟨rfl, H8.out.bel⟩
  · obtain ⟨er, her⟩ : ∃ z, z = leftE (validB nm nd ev vol tot = true) E n from_ sec t := ⟨_, rfl⟩
    rw [left_bad her.symm (by rw [her]; exact h0)] at st
    rw [← her] at h0
    have n1 : (er == 0) = false := by simp [h0]
    have ST := Lib.hid st
    clear hlong h40 hE hT h0 her st hl0 hl1 hn1 hn2
    go_enter Tryd.func7, Tryd.ntmps7
    go_wp2_with (first
      | (go_at_call 9
         with_reducible refine (SA.out _ H0.out.env).mono ?_
         rintro e w1 ⟨rfl, hb1⟩
         have H1 := Lib.hid (H0.out.call hb1)
         obtain ⟨p0, p1, p2, p3, p4⟩ := perm_cells H1.out.blk
         clear hb1)
      | (go_at_call 10
         with_reducible refine (SL.out _).mono ?_
         rintro e w2 ⟨rfl, hb2⟩
         have H2 := Lib.hid (H1.out.call hb2)
         obtain ⟨p0, p1, p2, p3, p4⟩ := perm_cells H2.out.blk
         clear hb2)
      | (go_at_call 21
         with_reducible refine (ST.out _ H2.out.ev).mono ?_
         rintro e w3 ⟨rfl, hb3⟩
         have H3 := Lib.hid (H2.out.call hb3)
         clear hb3))
    go_ret
    exact ⟨rfl, H3.out.bel⟩
end Go.Proofs.YtgbnbafigjijmaaDoor

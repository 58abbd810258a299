/- The reference's Left. -/
import Derived.Test.YtgbnbafigjijmaaDoorRYs
namespace Go.Proofs.YtgbnbafigjijmaaDoor
open Go.RowKit
set_option linter.unusedVariables false
set_option linter.unusedSimpArgs false

theorem cnt_upto {E : Evs} {from_ sec t y : Int} (hy : y = yearOf t) : ∀ {k : Nat}, (∀ j, j < k → from_ + sec * E.F j < t) → cntW (cntAt E from_ sec t) k = cnt (yrs E from_ sec) y k ∧ smW (cntAt E from_ sec t) E.Tot k = sm (yrs E from_ sec) E.Tot y k
  | 0, _ => ⟨rfl, rfl⟩
  | k + 1, h => by
    obtain ⟨a, b⟩ := cnt_upto hy (k := k) fun j hj => h j (by omega)
    have hk := h k (by omega)
    have hc : (cntAt E from_ sec t k = true) ↔ yrs E from_ sec k = y := by
      unfold cntAt
      rw [decide_eq_true_iff, hy]
      exact ⟨fun h => h.1, fun h => ⟨h, hk⟩⟩
    unfold cntW smW cnt sm
    rw [a, b]
    by_cases h0 : yrs E from_ sec k = y
    · rw [if_pos (hc.2 h0), if_pos (hc.2 h0), if_pos h0, if_pos h0]; exact ⟨rfl, rfl⟩
    · rw [if_neg (fun h => h0 (hc.1 h)), if_neg (fun h => h0 (hc.1 h)), if_neg h0, if_neg h0]; exact ⟨rfl, rfl⟩
theorem ref_left {E : Evs} {n k : Nat} {from_ sec t y tot : Int} (hk : k ≤ n) (hr : rightP E n) (hst : stepP from_ sec) (hB : ∀ j, j < k → from_ + sec * E.F j < t) (hE : k < n → ¬ from_ + sec * E.F k < t) (hy : y = yearOf t) (ev : Int) (htot : tot ≤ 576460752303423488) :
    max 0 (ev - (cnt (yrs E from_ sec) y k : Int)) = leftN E n from_ sec t ev ∧ max 0 (tot - capR (sm (yrs E from_ sec) E.Tot y k)) = leftV E n from_ sec t tot := by
  have hs : ∀ i, k ≤ i → i < n → cntAt E from_ sec t i = false := by
    intro i h1 h2
    unfold cntAt
    refine decide_eq_false fun h => hE (by omega) ?_
    have a : E.F k ≤ E.F i := by
      rcases Nat.lt_or_ge k i with g | g
      · exact hr.asc i k h1 h2
      · obtain rfl : k = i := by omega
        exact Int.le_refl _
    have b : sec * E.F k ≤ sec * E.F i := Int.mul_le_mul_of_nonneg_left a (by unfold stepP at hst; omega)
    omega
  obtain ⟨c1, c2⟩ := cnt_upto (E := E) (from_ := from_) (sec := sec) (t := t) (y := y) hy (k := k) hB
  unfold leftN leftV
  rw [cntW_stop hk hs, smW_stop hk hs, c1, c2]
  refine ⟨rfl, ?_⟩
  unfold capR cutS
  split <;> split <;> omega
set_option maxRecDepth 100000 in
set_option maxHeartbeats 4000000 in
theorem rleft (nm nd : ByteArray) (ev vol tot : Int) (hn1 : nm.size ≤ maxLen) (hn2 : nd.size ≤ maxLen) (A : Option Addr) (n c : Nat) (E : Evs) (from_ sec t : Int) (h40 : n ≤ 40) (w : World) (hT : EvIn w A n E) :
    Calls Tryd.prog 22 #[.agg #[.string nm, .string nd, .int .i64 ev, .int .i64 vol, .int .i64 tot], .slice A n c, .int .i64 from_, .int .i64 sec, .int .i64 t] w fun e w' => e = .returned (leftRes (validB nm nd ev vol tot = true) E n from_ sec t ev tot) ∧ Below w.heap.size w w' := by
  have HT := Lib.hid hT
  have H40 := Lib.hid h40
  have SY := Lib.hid fun w hT => ryears nm nd ev vol tot hn1 hn2 A n c E from_ sec h40 w hT
  have HP0 := Lib.hid (perm_blk w nm nd ev vol tot)
  have HW0 : Hid (Below w.heap.size w (w.alloc (Obj.cells #[.string nm, .string nd, .int .i64 ev, .int .i64 vol, .int .i64 tot] 23))) := by show Below _ _ _; (repeat' (first | assumption | exact Below.refl _ _ | exact Below.size (by assumption) | (refine Below.setCell ?_ ?_ _) | (refine Below.alloc ?_ ?_ _) | (refine Below.drew ?_) | (refine below_drewN ?_ _) | (refine Below.trans ?_ (Below.mono ‹Below _ _ _› ?_)) | omega | (simp; done) | (simp; omega) | (simp at *; omega)))
  have HTA : Hid (EvIn (w.alloc (Obj.cells #[.string nm, .string nd, .int .i64 ev, .int .i64 vol, .int .i64 tot] 23)) A n E) := HT.out.below (Nat.le_refl _) HW0.out
  have SYT := Lib.hid fun w => rsplit t (yearOf t) (errOf t) (time_is t) w
  by_cases hE : yErr (validB nm nd ev vol tot = true) E n from_ sec = 0
  · obtain ⟨hok, hrp, hst, hyr⟩ := yErr_zero hE
    have HRP := Lib.hid hrp
    have HST := Lib.hid hst
    by_cases het : errOf t = 0
    · have HL : Hid (leftRes (validB nm nd ev vol tot = true) E n from_ sec t ev tot = .tuple #[.int .i64 (leftN E n from_ sec t ev), .int .i64 (leftV E n from_ sec t tot), .int .i64 0]) := by
        show _ = _
        unfold leftRes
        rw [if_pos (show leftE _ E n from_ sec t = 0 by unfold leftE; rw [if_pos hE]; exact het)]
      have HVL : Hid (limR ev vol tot) := (validB_true.1 hok).2.2
      have HE := Lib.hid hE
      rw [het] at SYT
      obtain ⟨yt, hyt⟩ : ∃ z, z = yearOf t := ⟨_, rfl⟩
      rw [← hyt] at SYT
      have HYT := Lib.hid hyt
      rw [HL.out]
      clear hE hok hrp hst hyr het hyt hT h40 hn1 hn2
      go_enter Tryd.func22, Tryd.ntmps22
      go_upto_region 5 with (first
        | (go_at_call 40
           with_reducible refine (SY.out _ HTA.out).mono ?_
           rintro e w1 ⟨A1, N1, cap1, er, rfl, her, hI, hb1⟩
           obtain rfl : 0 = er := HE.out.symm.trans her.symm
           obtain ⟨hN, hJ⟩ := hI rfl
           clear hI
           obtain rfl := hN.symm
           have HI1 := Lib.hid hJ
           have HW1 := Lib.hid (below_step HW0.out hb1)
           have HP1 := Lib.hid (HP0.out.call hb1)
           clear hJ hb1 her hN)
        | (go_at_call 47
           with_reducible refine (SYT.out _).mono ?_
           rintro e w2 ⟨⟨mo, da, se, rfl⟩, hb2⟩
           have HI2 := Lib.hid (HI1.out.below (Nat.le_refl _) hb2)
           have HW2 := Lib.hid (below_step HW1.out hb2)
           have HP2 := Lib.hid (HP1.out.call hb2)
           clear hb2))
      have hal : Below w2.heap.size w2 (w2.alloc (Obj.cells #[.int .i64 yt, .int .i64 mo, .int .i64 da] 35)) := (Below.refl _ w2).alloc (Nat.le_refl _) _
      have HI5 := Lib.hid (HI2.out.below (Nat.le_refl _) hal)
      have HW5 := Lib.hid (below_step HW2.out hal)
      have HP5 := Lib.hid (HP2.out.call hal)
      have BD5 := Lib.hid (Blk.new w2 35 #[.int .i64 yt, .int .i64 mo, .int .i64 da])
      obtain ⟨gd, hgd⟩ : ∃ z, z = w2.heap.size := ⟨_, rfl⟩
      rw [← hgd] at BD5 ⊢
      clear hal HI2 HW2 HP2 hgd
      generalize (w2.alloc (Obj.cells #[.int .i64 yt, .int .i64 mo, .int .i64 da] 35)) = w5 at HI5 HW5 HP5 BD5 ⊢
      go_wp2_with fail
      go_loopw [17] (fun v wr => ∃ i : Nat, Hid (i ≤ n) ∧ Hid (∀ j, j < i → from_ + sec * E.F j < t) ∧ v = .int .i64 i ∧ w5 = wr) (fun v _ => n - (intOf v).toNat)
      case atStart => exact ⟨0, Nat.zero_le _, fun j hj => absurd hj (Nat.not_lt_zero _), rfl, rfl⟩
      case round =>
        obtain ⟨i, Hi, HB, rfl, rfl⟩ := hrel
        by_cases hlt : i < n
        · have T0 : decide ((i : Int) < (n : Int)) = true := by simp <;> omega
          have T0' : decide (i < n) = true := decide_eq_true hlt
          obtain ⟨i', hi'⟩ : ∃ z, z = i + 1 := ⟨_, rfl⟩
          have x0 : IntKind.i64.wrap ((i : Int) + 1) = (i' : Int) := by have := H40.out; rw [IntKind.wrap_i64]; omega
          have HI' : Hid (i' ≤ n) := by show i' ≤ n; omega
          have HMS : Hid (n - (intOf (Value.int .i64 (i' : Int))).toNat < n - (intOf (Value.int .i64 (i : Int))).toNat) := by show _ < _; simp [intOf]; omega
          have k0 : (0 : Int) ≤ (i : Int) := by omega
          have k1 : (i : Int) < (n : Int) := by omega
          obtain ⟨eb, eoff, hA, heb, c0, c1, c2, c3⟩ := (HT.out.below (Nat.le_refl _) HW5.out).at hlt
          subst hA
          have hbd := HRP.out.bounds hlt
          obtain ⟨f, hf⟩ : ∃ z, z = E.F i := ⟨_, rfl⟩
          obtain ⟨p, hp⟩ : ∃ z, z = sec * f := ⟨_, rfl⟩
          obtain ⟨tm, htm⟩ : ∃ z, z = from_ + p := ⟨_, rfl⟩
          have htb := t_bound HST.out hbd.1 (by omega)
          have hsb := HST.out
          unfold stepP InstP at hsb
          rw [← hf] at htb
          have x1 : IntKind.i64.wrap (sec * f) = p := by rw [← hp, IntKind.wrap_i64]; omega
          have x2 : IntKind.i64.wrap (from_ + p) = tm := by rw [← htm, IntKind.wrap_i64]; omega
          have hte : from_ + sec * E.F i = tm := by rw [htm, hp, hf]
          rw [← hf] at c0
          by_cases htt : tm < t
          · have u2 : decide (tm < t) = true := decide_eq_true htt
            have HB' : Hid (∀ j, j < i' → from_ + sec * E.F j < t) := by
              show ∀ j, j < i' → _
              intro j hj
              rcases Nat.lt_or_ge j i with g | g
              · exact HB.out j g
              · obtain rfl : j = i := by omega
                rw [hte]; exact htt
            clear hlt hi' hf hp htm hbd htb hsb hte htt
            go_wp2_with fail
            go_roundw
            case rel => exact ⟨i', HI', HB', rfl, by trivial⟩
            case measure => exact HMS.out
          · have u2 : decide (tm < t) = false := decide_eq_false htt
            have HEND : Hid (i < n → ¬ from_ + sec * E.F i < t) := fun _ => by rw [hte]; exact htt
            clear hlt hi' x0 hf hp htm hbd htb hsb hte htt
            have hk := Hi.out
            have sy2 := fun w hT hY => rinyear (some ⟨eb, eoff, none⟩) n c E A1 n cap1 (yrs E from_ sec) i yt H40.out hk HRP.out w hT hY rfl
            obtain ⟨e1, e2⟩ := ref_left hk HRP.out HST.out HB.out HEND.out HYT.out ev HVL.out.2.2.2.2.2
            have hlim := HVL.out
            unfold limR at hlim
            have hc40 := cnt_le (yrs E from_ sec) yt i
            have hs0 : 0 ≤ sm (yrs E from_ sec) E.Tot yt i := sm_nn i (fun j hj => by have := HRP.out.bounds (show j < n by omega); omega)
            have hs1 := capR_nn hs0
            have h40' := H40.out
            have sa := fun w => rrest ev (cnt (yrs E from_ sec) yt i : Int) (by omega) (by omega) w
            have sb := fun w => rrest tot (capR (sm (yrs E from_ sec) E.Tot yt i)) (by omega) (by omega) w
            rw [e1] at sa
            rw [e2] at sb
            generalize (cnt (yrs E from_ sec) yt i : Int) = CN at sy2 sa
            generalize capR (sm (yrs E from_ sec) E.Tot yt i) = SM at sy2 sb
            have SIY := Lib.hid sy2
            have SA := Lib.hid sa
            have SB := Lib.hid sb
            have HTE := Lib.hid (HT.out.below (Nat.le_refl _) HW5.out)
            clear sy2 sa sb e1 e2 hlim hc40 hs0 hs1 h40' hk
            obtain ⟨d0, d1, d2⟩ := date_cells BD5.out
            obtain ⟨p0, p1, p2, p3, p4⟩ := perm_cells HP5.out
            go_wp2_with (first
              | (go_at_call 42
                 with_reducible refine (SIY.out _ HTE.out HI5.out).mono ?_
                 rintro e w' ⟨rfl, rfl⟩))
            go_quiet (first | (go_at_call 48; with_reducible exact quiet_left (SA.out _)) | (go_at_call 48; with_reducible exact quiet_left (SB.out _)))
            go_wp2_with fail
            refine bodyPost_ret (v := .tuple #[.int .i64 (leftN E n from_ sec t ev), .int .i64 (leftV E n from_ sec t tot), .int .i64 0]) (by simp [results, Tryd.results22, go_sem]) rfl ⟨rfl, ?_⟩
            have := HW5.out
            (repeat' (first | assumption | exact Below.refl _ _ | exact Below.size (by assumption) | (refine Below.setCell ?_ ?_ _) | (refine Below.alloc ?_ ?_ _) | (refine Below.drew ?_) | (refine below_drewN ?_ _) | (refine Below.trans ?_ (Below.mono ‹Below _ _ _› ?_)) | omega | (simp; done) | (simp; omega) | (simp at *; omega)))
        · have hin : i = n := by have := Hi.out; omega
          have T0 : decide ((i : Int) < (n : Int)) = false := by simp <;> omega
          have T0' : decide (i < n) = false := decide_eq_false hlt
          have HEND : Hid (i < n → ¬ from_ + sec * E.F i < t) := fun h => absurd h hlt
          clear hlt hin
          have hk := Hi.out
          have sy2 := fun w hT hY => rinyear A n c E A1 n cap1 (yrs E from_ sec) i yt H40.out hk HRP.out w hT hY rfl
          obtain ⟨e1, e2⟩ := ref_left hk HRP.out HST.out HB.out HEND.out HYT.out ev HVL.out.2.2.2.2.2
          have hlim := HVL.out
          unfold limR at hlim
          have hc40 := cnt_le (yrs E from_ sec) yt i
          have hs0 : 0 ≤ sm (yrs E from_ sec) E.Tot yt i := sm_nn i (fun j hj => by have := HRP.out.bounds (show j < n by omega); omega)
          have hs1 := capR_nn hs0
          have h40' := H40.out
          have sa := fun w => rrest ev (cnt (yrs E from_ sec) yt i : Int) (by omega) (by omega) w
          have sb := fun w => rrest tot (capR (sm (yrs E from_ sec) E.Tot yt i)) (by omega) (by omega) w
          rw [e1] at sa
          rw [e2] at sb
          generalize (cnt (yrs E from_ sec) yt i : Int) = CN at sy2 sa
          generalize capR (sm (yrs E from_ sec) E.Tot yt i) = SM at sy2 sb
          have SIY := Lib.hid sy2
          have SA := Lib.hid sa
          have SB := Lib.hid sb
          have HTE := Lib.hid (HT.out.below (Nat.le_refl _) HW5.out)
          clear sy2 sa sb e1 e2 hlim hc40 hs0 hs1 h40' hk
          obtain ⟨d0, d1, d2⟩ := date_cells BD5.out
          obtain ⟨p0, p1, p2, p3, p4⟩ := perm_cells HP5.out
          go_wp2_with (first
            | (go_at_call 42
               with_reducible refine (SIY.out _ HTE.out HI5.out).mono ?_
               rintro e w' ⟨rfl, rfl⟩))
          go_quiet (first | (go_at_call 48; with_reducible exact quiet_left (SA.out _)) | (go_at_call 48; with_reducible exact quiet_left (SB.out _)))
          go_wp2_with fail
          refine bodyPost_ret (v := .tuple #[.int .i64 (leftN E n from_ sec t ev), .int .i64 (leftV E n from_ sec t tot), .int .i64 0]) (by simp [results, Tryd.results22, go_sem]) rfl ⟨rfl, ?_⟩
          have := HW5.out
          (repeat' (first | assumption | exact Below.refl _ _ | exact Below.size (by assumption) | (refine Below.setCell ?_ ?_ _) | (refine Below.alloc ?_ ?_ _) | (refine Below.drew ?_) | (refine below_drewN ?_ _) | (refine Below.trans ?_ (Below.mono ‹Below _ _ _› ?_)) | omega | (simp; done) | (simp; omega) | (simp at *; omega)))
    · have HL : Hid (leftRes (validB nm nd ev vol tot = true) E n from_ sec t ev tot = .tuple #[.int .i64 0, .int .i64 0, .int .i64 (errOf t)]) := left_bad (by unfold leftE; rw [if_pos hE]) het
      have HE := Lib.hid hE
      obtain ⟨er2, he2⟩ : ∃ z, z = errOf t := ⟨_, rfl⟩
      rw [HL.out]
      rw [← he2] at SYT het ⊢
      have u1 : (er2 == 0) = false := by simp [het]
      clear hE hok hrp hst hyr het he2 hT h40 hn1 hn2
      go_enter Tryd.func22, Tryd.ntmps22
      go_wp2_with (first
        | (go_at_call 40
           with_reducible refine (SY.out _ HTA.out).mono ?_
           rintro e w1 ⟨A1, N1, cap1, er, rfl, her, hI, hb1⟩
           obtain rfl : 0 = er := HE.out.symm.trans her.symm
           have HW1 := Lib.hid (below_step HW0.out hb1)
           clear hI hb1 her)
        | (go_at_call 47
           with_reducible refine (SYT.out _).mono ?_
           rintro e w2 ⟨⟨mo, da, se, rfl⟩, hb2⟩
           have HW2 := Lib.hid (below_step HW1.out hb2)
           clear hb2))
      refine bodyPost_ret (v := .tuple #[.int .i64 0, .int .i64 0, .int .i64 er2]) (by simp [results, Tryd.results22, go_sem]) rfl ⟨rfl, ?_⟩
      have := HW2.out
      (repeat' (first | assumption | exact Below.refl _ _ | exact Below.size (by assumption) | (refine Below.setCell ?_ ?_ _) | (refine Below.alloc ?_ ?_ _) | (refine Below.drew ?_) | (refine below_drewN ?_ _) | (refine Below.trans ?_ (Below.mono ‹Below _ _ _› ?_)) | omega | (simp; done) | (simp; omega) | (simp at *; omega)))
  · obtain ⟨er1, he1⟩ : ∃ z, z = yErr (validB nm nd ev vol tot = true) E n from_ sec := ⟨_, rfl⟩
    have HL : Hid (leftRes (validB nm nd ev vol tot = true) E n from_ sec t ev tot = .tuple #[.int .i64 0, .int .i64 0, .int .i64 er1]) := left_bad (by unfold leftE; rw [if_neg hE, he1]) (by rw [he1]; exact hE)
    have HE := Lib.hid he1
    rw [← he1] at hE
    have u1 : (er1 == 0) = false := by simp [hE]
    rw [HL.out]
    clear he1 hE hT h40 hn1 hn2
    go_enter Tryd.func22, Tryd.ntmps22
    go_wp2_with (first
      | (go_at_call 40
         with_reducible refine (SY.out _ HTA.out).mono ?_
         rintro e w1 ⟨A1, N1, cap1, er, rfl, her, hI, hb1⟩
         obtain rfl : er1 = er := HE.out.trans her.symm
         have HW1 := Lib.hid (below_step HW0.out hb1)
         clear hI hb1 her))
    refine bodyPost_ret (v := .tuple #[.int .i64 0, .int .i64 0, .int .i64 er1]) (by simp [results, Tryd.results22, go_sem]) rfl ⟨rfl, HW1.out⟩
end Go.Proofs.YtgbnbafigjijmaaDoor

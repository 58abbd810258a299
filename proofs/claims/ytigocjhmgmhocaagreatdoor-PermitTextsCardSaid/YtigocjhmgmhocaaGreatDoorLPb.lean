/- The walk of the law PermitBack. -/
import Derived.Test.YtigocjhmgmhocaaGreatDoorPxU
import Derived.Test.YtigocjhmgmhocaaGreatDoorPqW
import Derived.Test.YtigocjhmgmhocaaGreatDoorAwk
namespace Go.Proofs.YtigocjhmgmhocaaGreatDoor
open Go.RowKit
set_option linter.unusedVariables false
set_option linter.unusedSimpArgs false

theorem pm_ok {L : List Pmr} {s : List UInt8} (h : ∀ p, p ∈ L → okP p) (hs : s = ptx L) : PmIs s L 0 0 := .ok L (fun p hp => (h p hp).form) (by rw [hs]; exact rl_ptx fun p hp => (h p hp).form) h
theorem pm_text {s : List UInt8} {L : List Pmr} (h : PmIs s L 0 0) : s = ptx L ∧ (∀ p, p ∈ L → okP p) ∧ 10 * L.length ≤ s.length := by
  generalize hk : (0 : Nat) = k at h
  generalize he : (0 : Int) = e at h
  cases h with
  | form => exact absurd he (by decide)
  | arg => exact absurd he (by decide)
  | ok _ hf hr ho =>
    have e : s = ptx L := by rw [← rl_join s, hr, pll_join]
    exact ⟨e, ho, by rw [e]; exact ptx_len hf⟩
theorem pm_zero {s : List UInt8} {L : List Pmr} {k : Nat} {e : Int} (h : PmIs s L k e) (he : e = 0) : k = 0 := by
  cases h with
  | form => exact absurd he (by decide)
  | arg => rfl
  | ok => rfl
theorem tparse_yes (s : ByteArray) (hs : s.size ≤ 5000) (L : List Pmr) (N : Nat) (hN : N = L.length) (h : PmIs s.data.toList L 0 0) (w : World) (hE : Env5 w) :
    Calls Tryz.prog 12 #[.string s] w fun e w' => ∃ (A : Option Addr) (cap : Nat), e = .returned (.tuple #[.slice A N cap, .agg #[.int .i64 0, .int .i64 0], .int .i64 0]) ∧ PmIn w' A N (pmsL L) ∧ Below w.heap.size w w' := by
  refine (tparse s hs w hE).mono fun e w' hp => ?_
  obtain ⟨L', k, er, A, cap, h1, rfl, h3, h4⟩ := hp
  obtain ⟨rfl, rfl, rfl⟩ := h1.uniq h
  subst hN
  exact ⟨A, cap, rfl, h3, h4⟩
theorem tparse_not (s : ByteArray) (hs : s.size ≤ 5000) (h : ∀ L, ¬ PmIs s.data.toList L 0 0) (w : World) (hE : Env5 w) :
    Calls Tryz.prog 12 #[.string s] w fun e w' => ∃ (A : Option Addr) (N cap : Nat) (x y er : Int), er ≠ 0 ∧ e = .returned (.tuple #[.slice A N cap, .agg #[.int .i64 x, .int .i64 y], .int .i64 er]) ∧ Below w.heap.size w w' := by
  refine (tparse s hs w hE).mono fun e w' hp => ?_
  obtain ⟨L', k, er, A, cap, h1, rfl, h3, h4⟩ := hp
  refine ⟨A, _, cap, _, _, er, fun he => ?_, rfl, h4⟩
  have := pm_zero h1 he
  subst this he
  exact h _ h1
theorem pml_id (P : Pms) (n : Nat) : ∀ k, k < n → (pmsL (pml P n)).at k = P.at k := fun k hk => by
  rw [pmsL_at]
  unfold pml
  simp [List.getD, hk]
theorem str_eq {s : ByteArray} {l : List UInt8} (h : s.data.toList = l) : (⟨l.toArray⟩ : ByteArray) = s := by subst h; exact bytes_of s
set_option maxRecDepth 100000 in
set_option maxHeartbeats 8000000 in
theorem back_walk (A : Option Addr) (n c : Nat) (P : Pms) (s : ByteArray) (w : World) (hP : PmIn w A n P) (hE : Env5 w) :
    Calls Tryz.prog 4 #[.slice A n c, .string s] w fun e w' => e = .returned (.bool true) ∧ Below w.heap.size w w' := by
  have SA := Lib.hid fun w (hE : Env5 w) => caw w hE.1
  have HE := Lib.hid hE
  have HP := Lib.hid hP
  by_cases h1 : 20 < n
  · have t1 : decide ((20 : Int) < (n : Int)) = true := decide_eq_true (by omega)
    have t1' : decide (20 < n) = true := decide_eq_true h1
    clear h1 hE hP
    go_enter Tryz.func4, Tryz.ntmps4
    go_wp2_with (first
      | (go_at_call 5
         with_reducible refine (SA.out _ HE.out).mono ?_
         rintro e w1 ⟨rfl, hb1⟩
         have H1 := Lib.hid hb1
         clear hb1))
    go_ret
    exact ⟨by first | rfl | (simp), H1.out⟩
  have t1 : decide ((20 : Int) < (n : Int)) = false := decide_eq_false (by omega)
  have t1' : decide (20 < n) = false := decide_eq_false h1
  have hn : n ≤ 20 := by omega
  by_cases h2 : ∃ j, j < n ∧ (fun j => decide (60 < (P.Nm j).size ∨ 60 < (P.Nd j).size)) j = true
  · have SL := Lib.hid fun w hP => has_lng A n c P w (by omega) hP true ⟨fun _ => h2, fun _ => rfl⟩
    clear h1 h2 hn hE hP
    go_enter Tryz.func4, Tryz.ntmps4
    go_wp2_with (first
      | (go_at_call 5
         with_reducible refine (SA.out _ HE.out).mono ?_
         rintro e w1 ⟨rfl, hb1⟩
         have H1 := Lib.hid hb1
         clear hb1)
      | (go_at_call 6
         with_reducible refine (SL.out _ (HP.out.below (Nat.le_refl _) H1.out)).mono ?_
         rintro e w2 ⟨rfl, hb2⟩
         have H2 := Lib.hid (below_step H1.out hb2)
         clear hb2))
    go_ret
    exact ⟨by first | rfl | (simp), H2.out⟩
  have SL := Lib.hid fun w hP => has_lng A n c P w (by omega) hP false ⟨fun h => (by cases h), fun h => absurd h h2⟩
  have HSZ : ∀ k, k < n → (P.Nm k).size ≤ maxLen ∧ (P.Nd k).size ≤ maxLen := fun k hk => by
    have : ¬ (60 < (P.Nm k).size ∨ 60 < (P.Nd k).size) := fun g => h2 ⟨k, hk, decide_eq_true g⟩
    unfold maxLen; omega
  have HPS : Hid (PmS w A n P) := ⟨hP, HSZ⟩
  by_cases h3 : 2000 < s.size
  · have t3 : decide ((2000 : Int) < (s.size : Int)) = true := decide_eq_true (by omega)
    have t3' : decide (2000 < s.size) = true := decide_eq_true h3
    clear h1 h2 h3 hn hE hP HSZ
    go_enter Tryz.func4, Tryz.ntmps4
    go_wp2_with (first
      | (go_at_call 5
         with_reducible refine (SA.out _ HE.out).mono ?_
         rintro e w1 ⟨rfl, hb1⟩
         have H1 := Lib.hid hb1
         clear hb1)
      | (go_at_call 6
         with_reducible refine (SL.out _ (HP.out.below (Nat.le_refl _) H1.out)).mono ?_
         rintro e w2 ⟨rfl, hb2⟩
         have H2 := Lib.hid (below_step H1.out hb2)
         clear hb2))
    go_ret
    exact ⟨by first | rfl | (simp), H2.out⟩
  have t3 : decide ((2000 : Int) < (s.size : Int)) = false := decide_eq_false (by omega)
  have t3' : decide (2000 < s.size) = false := decide_eq_false h3
  by_cases h4 : ∃ L, PmIs s.data.toList L 0 0
  · obtain ⟨L, hL⟩ := h4
    obtain ⟨hL1, hL2, hL3⟩ := pm_text hL
    rw [← size_lst] at hL3
    obtain ⟨N, hN⟩ : ∃ N, N = L.length := ⟨_, rfl⟩
    have SP1 := Lib.hid fun w hE => tparse_yes s (by omega) L N hN hL w hE
    have ST1 := Lib.hid fun A2 c2 w hE hP => txt_ok A2 N c2 (pmsL L) w hE (by omega) hP (fun k hk => hL2 _ (pmsL_mem (by omega)))
    rw [show (⟨(ptx (pml (pmsL L) N)).toArray⟩ : ByteArray) = s from by rw [hN, pml_pmsL]; exact str_eq hL1] at ST1
    by_cases hv : ∀ k, k < n → okP (P.at k)
    · obtain ⟨t, ht⟩ : ∃ t : ByteArray, t = ⟨(ptx (pml P n)).toArray⟩ := ⟨_, rfl⟩
      have htl : t.data.toList = ptx (pml P n) := by rw [ht]
      have hall : ∀ p, p ∈ pml P n → okP p := fun p hp => by
        obtain ⟨k, hk, rfl⟩ := pml_mem.1 hp
        exact hv k hk
      have hts : t.size ≤ 5000 := by
        have := ptx_le (L := pml P n) (fun p hp => (hall p hp).form)
        rw [pml_len, ← htl, ← size_lst] at this
        omega
      have ST2 := Lib.hid fun w hE hP => txt_ok A n c P w hE (by omega) hP hv
      rw [← ht] at ST2
      have SP2 := Lib.hid fun w hE => tparse_yes t hts (pml P n) n (pml_len P n).symm (pm_ok hall htl) w hE
      have SQ := Lib.hid fun A6 c6 w hA hB => pequal A6 A n c6 c (pmsL (pml P n)) P w hA hB (pml_id P n)
      clear h1 h2 h3 hn hE hP HSZ hL hL1 hL2 hL3 hv ht htl hall hts hN
      go_enter Tryz.func4, Tryz.ntmps4
      go_wp2_with (first
        | (go_at_call 12
           with_reducible refine (SP2.out _ (HE.out.below H5.out)).mono ?_
           rintro e w6 ⟨A6, cap6, rfl, hin, hb6⟩
           have H6 := Lib.hid ((below_step H5.out hb6).alloc (below_step H5.out hb6).size (.cells #[.int .i64 0, .int .i64 0] 33))
           have HI6 := Lib.hid (hin.below (Nat.le_refl _) ((Below.refl _ w6).alloc (Nat.le_refl _) (.cells #[.int .i64 0, .int .i64 0] 33)))
           clear hb6 hin)
        | (go_at_call 14
           with_reducible refine (SQ.out _ _ _ HI6.out (HP.out.below (Nat.le_refl _) H6.out)).mono ?_
           rintro e w7 ⟨rfl, hb7⟩
           have H7 := Lib.hid (below_step H6.out hb7)
           clear hb7)
        | (go_at_call 8
           with_reducible refine (ST2.out _ (HE.out.below H4.out) (HP.out.below (Nat.le_refl _) H4.out)).mono ?_
           rintro e w5 ⟨rfl, hb5⟩
           have H5 := Lib.hid (below_step H4.out hb5)
           clear hb5)
        | (go_at_call 8
           with_reducible refine (ST1.out _ _ _ (HE.out.below H3.out) HI3.out).mono ?_
           rintro e w4 ⟨rfl, hb4⟩
           have H4 := Lib.hid (below_step H3.out hb4)
           clear hb4)
        | (go_at_call 5
           with_reducible refine (SA.out _ HE.out).mono ?_
           rintro e w1 ⟨rfl, hb1⟩
           have H1 := Lib.hid hb1
           clear hb1)
        | (go_at_call 6
           with_reducible refine (SL.out _ (HP.out.below (Nat.le_refl _) H1.out)).mono ?_
           rintro e w2 ⟨rfl, hb2⟩
           have H2 := Lib.hid (below_step H1.out hb2)
           clear hb2)
        | (go_at_call 12
           with_reducible refine (SP1.out _ (HE.out.below H2.out)).mono ?_
           rintro e w3 ⟨A2, cap2, rfl, hin, hb3⟩
           have H3 := Lib.hid ((below_step H2.out hb3).alloc (below_step H2.out hb3).size (.cells #[.int .i64 0, .int .i64 0] 33))
           have HI3 := Lib.hid (hin.below (Nat.le_refl _) ((Below.refl _ w3).alloc (Nat.le_refl _) (.cells #[.int .i64 0, .int .i64 0] 33)))
           clear hb3 hin))
      go_ret
      exact ⟨by first | rfl | (simp), H7.out⟩

    · have hbad : ∃ k, k < n ∧ ¬ okP (P.at k) := by
        obtain ⟨k, hk⟩ := Classical.not_forall.1 hv
        obtain ⟨h1, h2⟩ := Classical.not_imp.1 hk
        exact ⟨k, h1, h2⟩
      have ST2 := Lib.hid fun w hP => txt_arg A n c P w (by omega) hP hbad
      have SB := Lib.hid fun w hP => has_binv A n c P w (by omega) hP true ⟨fun _ => by
        obtain ⟨j, hj, hb⟩ := hbad
        refine ⟨j, hj, ?_⟩
        have h1 : validB (P.Nm j) (P.Nd j) (P.Ev j) (P.Vol j) (P.Tot j) = false := by simpa [okP, Pms.at] using hb
        show (!_) = true
        rw [h1]; rfl, fun _ => rfl⟩
      clear h1 h2 h3 hn hE hP HSZ hL hL1 hL2 hL3 hv hbad hN
      go_enter Tryz.func4, Tryz.ntmps4
      go_wp2_with (first
        | (go_at_call 6
           with_reducible refine (SB.out _ (HPS.out.below (Nat.le_refl _) H5.out)).mono ?_
           rintro e w7 ⟨rfl, hb7⟩
           have H7 := Lib.hid (below_step H5.out hb7)
           clear hb7)
        | (go_at_call 8
           with_reducible refine (ST2.out _ (HPS.out.below (Nat.le_refl _) H4.out)).mono ?_
           rintro e w5 ⟨rfl, hb5⟩
           have H5 := Lib.hid (below_step H4.out hb5)
           clear hb5)
        | (go_at_call 8
           with_reducible refine (ST1.out _ _ _ (HE.out.below H3.out) HI3.out).mono ?_
           rintro e w4 ⟨rfl, hb4⟩
           have H4 := Lib.hid (below_step H3.out hb4)
           clear hb4)
        | (go_at_call 5
           with_reducible refine (SA.out _ HE.out).mono ?_
           rintro e w1 ⟨rfl, hb1⟩
           have H1 := Lib.hid hb1
           clear hb1)
        | (go_at_call 6
           with_reducible refine (SL.out _ (HP.out.below (Nat.le_refl _) H1.out)).mono ?_
           rintro e w2 ⟨rfl, hb2⟩
           have H2 := Lib.hid (below_step H1.out hb2)
           clear hb2)
        | (go_at_call 12
           with_reducible refine (SP1.out _ (HE.out.below H2.out)).mono ?_
           rintro e w3 ⟨A2, cap2, rfl, hin, hb3⟩
           have H3 := Lib.hid ((below_step H2.out hb3).alloc (below_step H2.out hb3).size (.cells #[.int .i64 0, .int .i64 0] 33))
           have HI3 := Lib.hid (hin.below (Nat.le_refl _) ((Below.refl _ w3).alloc (Nat.le_refl _) (.cells #[.int .i64 0, .int .i64 0] 33)))
           clear hb3 hin))
      go_ret
      exact ⟨by first | rfl | (simp), H7.out⟩

  have SP1 := Lib.hid fun w hE => tparse_not s (by omega) (fun L h => h4 ⟨L, h⟩) w hE
  by_cases hv : ∀ k, k < n → okP (P.at k)
  · obtain ⟨t, ht⟩ : ∃ t : ByteArray, t = ⟨(ptx (pml P n)).toArray⟩ := ⟨_, rfl⟩
    have htl : t.data.toList = ptx (pml P n) := by rw [ht]
    have hall : ∀ p, p ∈ pml P n → okP p := fun p hp => by
      obtain ⟨k, hk, rfl⟩ := pml_mem.1 hp
      exact hv k hk
    have hts : t.size ≤ 5000 := by
      have := ptx_le (L := pml P n) (fun p hp => (hall p hp).form)
      rw [pml_len, ← htl, ← size_lst] at this
      omega
    have ST2 := Lib.hid fun w hE hP => txt_ok A n c P w hE (by omega) hP hv
    rw [← ht] at ST2
    have SP2 := Lib.hid fun w hE => tparse_yes t hts (pml P n) n (pml_len P n).symm (pm_ok hall htl) w hE
    have SQ := Lib.hid fun A6 c6 w hA hB => pequal A6 A n c6 c (pmsL (pml P n)) P w hA hB (pml_id P n)
    clear h1 h2 h3 h4 hn hE hP HSZ hv ht htl hall hts
    go_enter Tryz.func4, Tryz.ntmps4
    go_wp2_with (first
      | (go_at_call 12
         with_reducible refine (SP2.out _ (HE.out.below H5.out)).mono ?_
         rintro e w6 ⟨A6, cap6, rfl, hin, hb6⟩
         have H6 := Lib.hid ((below_step H5.out hb6).alloc (below_step H5.out hb6).size (.cells #[.int .i64 0, .int .i64 0] 33))
         have HI6 := Lib.hid (hin.below (Nat.le_refl _) ((Below.refl _ w6).alloc (Nat.le_refl _) (.cells #[.int .i64 0, .int .i64 0] 33)))
         clear hb6 hin)
      | (go_at_call 14
         with_reducible refine (SQ.out _ _ _ HI6.out (HP.out.below (Nat.le_refl _) H6.out)).mono ?_
         rintro e w7 ⟨rfl, hb7⟩
         have H7 := Lib.hid (below_step H6.out hb7)
         clear hb7)
      | (go_at_call 8
         with_reducible refine (ST2.out _ (HE.out.below H4.out) (HP.out.below (Nat.le_refl _) H4.out)).mono ?_
         rintro e w5 ⟨rfl, hb5⟩
         have H5 := Lib.hid (below_step H4.out hb5)
         clear hb5)
      | (go_at_call 5
         with_reducible refine (SA.out _ HE.out).mono ?_
         rintro e w1 ⟨rfl, hb1⟩
         have H1 := Lib.hid hb1
         clear hb1)
      | (go_at_call 6
         with_reducible refine (SL.out _ (HP.out.below (Nat.le_refl _) H1.out)).mono ?_
         rintro e w2 ⟨rfl, hb2⟩
         have H2 := Lib.hid (below_step H1.out hb2)
         clear hb2)
      | (go_at_call 12
         with_reducible refine (SP1.out _ (HE.out.below H2.out)).mono ?_
         rintro e w3 ⟨A2, N2, cap2, px, py, er, he, rfl, hb3⟩
         have H4 := Lib.hid ((below_step H2.out hb3).alloc (below_step H2.out hb3).size (.cells #[.int .i64 px, .int .i64 py] 33))
         have te1 : (er == 0) = false := by simp [he]
         have te2 : decide (er = 0) = false := decide_eq_false he
         clear hb3))
    go_ret
    exact ⟨by first | rfl | (simp), H7.out⟩

  · have hbad : ∃ k, k < n ∧ ¬ okP (P.at k) := by
      obtain ⟨k, hk⟩ := Classical.not_forall.1 hv
      obtain ⟨h1, h2⟩ := Classical.not_imp.1 hk
      exact ⟨k, h1, h2⟩
    have ST2 := Lib.hid fun w hP => txt_arg A n c P w (by omega) hP hbad
    have SB := Lib.hid fun w hP => has_binv A n c P w (by omega) hP true ⟨fun _ => by
      obtain ⟨j, hj, hb⟩ := hbad
      refine ⟨j, hj, ?_⟩
      have h1 : validB (P.Nm j) (P.Nd j) (P.Ev j) (P.Vol j) (P.Tot j) = false := by simpa [okP, Pms.at] using hb
      show (!_) = true
      rw [h1]; rfl, fun _ => rfl⟩
    clear h1 h2 h3 h4 hn hE hP HSZ hv hbad
    go_enter Tryz.func4, Tryz.ntmps4
    go_wp2_with (first
      | (go_at_call 6
         with_reducible refine (SB.out _ (HPS.out.below (Nat.le_refl _) H5.out)).mono ?_
         rintro e w7 ⟨rfl, hb7⟩
         have H7 := Lib.hid (below_step H5.out hb7)
         clear hb7)
      | (go_at_call 8
         with_reducible refine (ST2.out _ (HPS.out.below (Nat.le_refl _) H4.out)).mono ?_
         rintro e w5 ⟨rfl, hb5⟩
         have H5 := Lib.hid (below_step H4.out hb5)
         clear hb5)
      | (go_at_call 5
         with_reducible refine (SA.out _ HE.out).mono ?_
         rintro e w1 ⟨rfl, hb1⟩
         have H1 := Lib.hid hb1
         clear hb1)
      | (go_at_call 6
         with_reducible refine (SL.out _ (HP.out.below (Nat.le_refl _) H1.out)).mono ?_
         rintro e w2 ⟨rfl, hb2⟩
         have H2 := Lib.hid (below_step H1.out hb2)
         clear hb2)
      | (go_at_call 12
         with_reducible refine (SP1.out _ (HE.out.below H2.out)).mono ?_
         rintro e w3 ⟨A2, N2, cap2, px, py, er, he, rfl, hb3⟩
         have H4 := Lib.hid ((below_step H2.out hb3).alloc (below_step H2.out hb3).size (.cells #[.int .i64 px, .int .i64 py] 33))
         have te1 : (er == 0) = false := by simp [he]
         have te2 : decide (er = 0) = false := decide_eq_false he
         clear hb3))
    go_ret
    exact ⟨by first | rfl | (simp), H7.out⟩

end Go.Proofs.YtigocjhmgmhocaaGreatDoor

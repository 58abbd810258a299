/- The walk of the law PermitTexts. -/
import Derived.Test.YtigocjhmgmhocaaGreatDoorLPb
import Derived.Test.YtigocjhmgmhocaaGreatDoorRpT
namespace Go.Proofs.YtigocjhmgmhocaaGreatDoor
open Go.RowKit
set_option linter.unusedVariables false
set_option linter.unusedSimpArgs false

set_option maxHeartbeats 1000000 in
theorem tparse_long (s : ByteArray) (hs : 262144 < s.size) (w : World) : Calls Tryz.prog 12 #[.string s] w fun e w' => e = .returned (.tuple #[.slice none 0 0, .agg #[.int .i64 0, .int .i64 0], .int .i64 4]) ∧ Below w.heap.size w w' := by
  have T0 : decide ((262144 : Int) < (s.size : Int)) = true := decide_eq_true (by omega)
  have T0' : decide (262144 < s.size) = true := decide_eq_true hs
  clear hs
  have g0 := ((Blk.new w 22 #[.slice none 0 0]).alloc (Obj.cells #[.int .i64 0, .int .i64 0] 33)).alloc (Obj.cells #[Value.int IntKind.i64 4] 28)
  have g1 := (Blk.new (w.alloc (Obj.cells #[Value.slice none 0 0] 22)) 33 #[.int .i64 0, .int .i64 0]).alloc (Obj.cells #[Value.int IntKind.i64 4] 28)
  have g2 := Blk.new ((w.alloc (Obj.cells #[Value.slice none 0 0] 22)).alloc (Obj.cells #[.int .i64 0, .int .i64 0] 33)) 28 #[.int .i64 4]
  have hb : Below w.heap.size w (((w.alloc (Obj.cells #[Value.slice none 0 0] 22)).alloc (Obj.cells #[.int .i64 0, .int .i64 0] 33)).alloc (Obj.cells #[Value.int IntKind.i64 4] 28)) := (((Below.refl _ w).alloc (Nat.le_refl _) _).alloc (by simp) _).alloc (by simp <;> omega) _
  simp only [World.size_alloc] at g1 g2
  have q0 := g0.cell 0
  have q1 := g1.cell 0
  have q2 := g1.cell 1
  have q3 := g2.cell 0
  simp only [List.getElem?_toArray, List.getElem?_cons_zero, List.getElem?_cons_succ] at q0 q1 q2 q3
  have HQ := Lib.hid (And.intro q0 (And.intro q1 (And.intro q2 q3)))
  clear q0 q1 q2 q3 g0 g1 g2
  go_enter Tryz.func12, Tryz.ntmps12
  go_wp2_with fail
  obtain ⟨q0, q1, q2, q3⟩ := HQ.out
  refine bodyPost_ret (v := .tuple #[.slice none 0 0, .agg #[.int .i64 0, .int .i64 0], .int .i64 4]) (by simp [results, Tryz.results12, go_sem, q0, q1, q2, q3]) rfl ⟨rfl, hb⟩
/-- What both answer. -/
def QK0 (s : ByteArray) (L : List Pmr) (er : Int) : Prop := if s.size ≤ 5000 then PmIs s.data.toList L 0 er else L = [] ∧ er = 4
theorem QK0.uniq {s : ByteArray} {L L' : List Pmr} {er er' : Int} (h : QK0 s L er) (h' : QK0 s L' er') : L = L' ∧ er = er' := by
  unfold QK0 at h h'
  by_cases hs : s.size ≤ 5000
  · rw [if_pos hs] at h h'
    obtain ⟨a, _, b⟩ := h.uniq h'
    exact ⟨a, b⟩
  · rw [if_neg hs] at h h'
    exact ⟨h.1.trans h'.1.symm, h.2.trans h'.2.symm⟩
theorem tp_k0 (s : ByteArray) (hs : s.size ≤ 5000) (h : ∃ L er, PmIs s.data.toList L 0 er) (w : World) (hE : Env5 w) : Calls Tryz.prog 12 #[.string s] w fun e w' =>
    ∃ (L : List Pmr) (er : Int) (A : Option Addr) (cap : Nat), QK0 s L er ∧ e = .returned (.tuple #[.slice A L.length cap, .agg #[.int .i64 0, .int .i64 0], .int .i64 er]) ∧ PmIn w' A L.length (pmsL L) ∧ Below w.heap.size w w' := by
  refine (tparse s hs w hE).mono fun e w' hp => ?_
  obtain ⟨L, k, er, A, cap, h1, rfl, h3, h4⟩ := hp
  obtain ⟨L0, e0, h0⟩ := h
  obtain ⟨rfl, rfl, rfl⟩ := h1.uniq h0
  exact ⟨_, _, A, cap, by unfold QK0; rw [if_pos hs]; exact h1, rfl, h3, h4⟩
theorem tp_k0l (s : ByteArray) (hs : 262144 < s.size) (w : World) (hE : Env5 w) : Calls Tryz.prog 12 #[.string s] w fun e w' =>
    ∃ (L : List Pmr) (er : Int) (A : Option Addr) (cap : Nat), QK0 s L er ∧ e = .returned (.tuple #[.slice A L.length cap, .agg #[.int .i64 0, .int .i64 0], .int .i64 er]) ∧ PmIn w' A L.length (pmsL L) ∧ Below w.heap.size w w' := by
  refine (tparse_long s hs w).mono fun e w' hp => ?_
  obtain ⟨rfl, h4⟩ := hp
  exact ⟨[], 4, none, 0, by unfold QK0; rw [if_neg (by omega)]; exact ⟨rfl, rfl⟩, rfl, ⟨by simp, .inl rfl⟩, h4⟩
theorem tp_k1 (s : ByteArray) (hs : s.size ≤ 5000) (h : ¬ ∃ L er, PmIs s.data.toList L 0 er) (w : World) (hE : Env5 w) : Calls Tryz.prog 12 #[.string s] w fun e w' =>
    ∃ (L : List Pmr) (k : Nat) (er : Int) (A : Option Addr) (cap : Nat), k ≠ 0 ∧ PmIs s.data.toList L k er ∧ e = .returned (.tuple #[.slice A L.length cap, .agg #[.int .i64 (k : Int), .int .i64 1], .int .i64 er]) ∧ PmIn w' A L.length (pmsL L) ∧ Below w.heap.size w w' := by
  refine (tparse s hs w hE).mono fun e w' hp => ?_
  obtain ⟨L, k, er, A, cap, h1, rfl, h3, h4⟩ := hp
  have hk : k ≠ 0 := fun e => by subst e; exact h ⟨_, _, h1⟩
  exact ⟨L, k, er, A, cap, hk, h1, by unfold posV; rw [if_neg hk], h3, h4⟩
theorem rp_k0 (s : ByteArray) (hs : s.size ≤ 5000) (h : ∃ L er, PmIs s.data.toList L 0 er) (w : World) : Calls Tryz.prog 13 #[.string s] w fun e w' =>
    ∃ (L : List Pmr) (er : Int) (A : Option Addr) (cap : Nat), QK0 s L er ∧ e = .returned (.tuple #[.slice A L.length cap, .int .i64 0, .int .i64 er]) ∧ PmIn w' A L.length (pmsL L) ∧ Below w.heap.size w w' := by
  refine (rparse s hs w).mono fun e w' hp => ?_
  obtain ⟨L, k, er, A, cap, h1, rfl, h3, h4⟩ := hp
  obtain ⟨L0, e0, h0⟩ := h
  obtain ⟨rfl, rfl, rfl⟩ := h1.uniq h0
  exact ⟨_, _, A, cap, by unfold QK0; rw [if_pos hs]; exact h1, rfl, h3, h4⟩
theorem rp_k0l (s : ByteArray) (hs : 262144 < s.size) (w : World) : Calls Tryz.prog 13 #[.string s] w fun e w' =>
    ∃ (L : List Pmr) (er : Int) (A : Option Addr) (cap : Nat), QK0 s L er ∧ e = .returned (.tuple #[.slice A L.length cap, .int .i64 0, .int .i64 er]) ∧ PmIn w' A L.length (pmsL L) ∧ Below w.heap.size w w' := by
  refine (rparse_long s hs w).mono fun e w' hp => ?_
  obtain ⟨rfl, h4⟩ := hp
  exact ⟨[], 4, none, 0, by unfold QK0; rw [if_neg (by omega)]; exact ⟨rfl, rfl⟩, rfl, ⟨by simp, .inl rfl⟩, h4⟩
theorem rp_k1 (s : ByteArray) (hs : s.size ≤ 5000) (h : ¬ ∃ L er, PmIs s.data.toList L 0 er) (w : World) : Calls Tryz.prog 13 #[.string s] w fun e w' =>
    ∃ (L : List Pmr) (k : Nat) (er : Int) (A : Option Addr) (cap : Nat), k ≠ 0 ∧ PmIs s.data.toList L k er ∧ e = .returned (.tuple #[.slice A L.length cap, .int .i64 (k : Int), .int .i64 er]) ∧ PmIn w' A L.length (pmsL L) ∧ Below w.heap.size w w' := by
  refine (rparse s hs w).mono fun e w' hp => ?_
  obtain ⟨L, k, er, A, cap, h1, rfl, h3, h4⟩ := hp
  have hk : k ≠ 0 := fun e => by subst e; exact h ⟨_, _, h1⟩
  exact ⟨L, k, er, A, cap, hk, h1, rfl, h3, h4⟩
set_option maxRecDepth 100000 in
set_option maxHeartbeats 8000000 in
theorem pt_small (A : Option Addr) (n c : Nat) (P : Pms) (s : ByteArray) (w : World) (hP : PmIn w A n P) (hE : Env5 w) (hn : n ≤ 20) :
    Calls Tryz.prog 3 #[.slice A n c, .string s] w fun e w' => e = .returned (.bool true) ∧ Below w.heap.size w w' := by
  have SA := Lib.hid fun w (hE : Env5 w) => caw w hE.1
  have HE := Lib.hid hE
  have HP := Lib.hid hP
  have t1 : decide ((20 : Int) < (n : Int)) = false := decide_eq_false (by omega)
  have t1' : decide (20 < n) = false := decide_eq_false (by omega)
  have t3 : decide ((1005 : Int) < (n : Int)) = false := decide_eq_false (by omega)
  have t3' : decide (1005 < n) = false := decide_eq_false (by omega)
  have t4 : decide ((1000 : Int) < (n : Int)) = false := decide_eq_false (by omega)
  have t4' : decide (1000 < n) = false := decide_eq_false (by omega)
  by_cases h2 : ∃ j, j < n ∧ (fun j => decide (60 < (P.Nm j).size ∨ 60 < (P.Nd j).size)) j = true
  · have SL := Lib.hid fun w hP => has_lng A n c P w (by omega) hP true ⟨fun _ => h2, fun _ => rfl⟩
    clear h2 hn hE hP
    go_enter Tryz.func3, Tryz.ntmps3
    go_wp2_with (first
      | (go_at_call 5
         with_reducible refine (SA.out _ HE.out).mono ?_
         rintro e w1 ⟨rfl, hb1⟩
         have H1 := Lib.hid hb1
         clear hb1)
      | (go_at_call 6
         with_reducible refine (SL.out _ (HP.out.below (Nat.le_refl _) H1.out)).mono ?_
         rintro e w2 ⟨rfl, hb2⟩
         have H2 := Lib.hid (below_step H1.out hb2)
         clear hb2))
    go_ret
    exact ⟨by first | rfl | (simp), H2.out⟩
  have SL := Lib.hid fun w hP => has_lng A n c P w (by omega) hP false ⟨fun h => (by cases h), fun h => absurd h h2⟩
  have HSZ : ∀ k, k < n → (P.Nm k).size ≤ maxLen ∧ (P.Nd k).size ≤ maxLen := fun k hk => by
    have : ¬ (60 < (P.Nm k).size ∨ 60 < (P.Nd k).size) := fun g => h2 ⟨k, hk, decide_eq_true g⟩
    unfold maxLen; omega
  have HPS : Hid (PmS w A n P) := ⟨hP, HSZ⟩
  have SQ := Lib.hid fun (A B : Option Addr) (N c d : Nat) (P : Pms) w hA hB => pequal A B N c d P P w hA hB (fun _ _ => rfl)
  by_cases g1 : 2000 < s.size
  case neg =>
    have u1 : decide ((2000 : Int) < (s.size : Int)) = false := decide_eq_false (by omega)
    have u1' : decide (2000 < s.size) = false := decide_eq_false g1
    have u3 : decide ((262154 : Int) < (s.size : Int)) = false := decide_eq_false (by omega)
    have u3' : decide (262154 < s.size) = false := decide_eq_false (by omega)
    by_cases g2 : ∃ L er, PmIs s.data.toList L 0 er
    · have SP := Lib.hid fun w hE => tp_k0 s (by omega) g2 w hE
      have SF := Lib.hid fun w => rp_k0 s (by omega) g2 w
      have HUN := Lib.hid fun (L L' : List Pmr) (er er' : Int) (h : QK0 s L er) (h' : QK0 s L' er') => h.uniq h'
      by_cases hv : ∀ k, k < n → okP (P.at k)
      · have SI := Lib.hid fun w hP => has_rinv A n c P w (by omega) hP false ⟨fun h => (by cases h), fun ⟨j, hj, hb⟩ => by
          have h1 : validB (P.Nm j) (P.Nd j) (P.Ev j) (P.Vol j) (P.Tot j) = true := hv j hj
          have hb' : (!_) = true := hb
          rw [h1] at hb'; cases hb'⟩
        have ST := Lib.hid fun w hE hP => txt_ok A n c P w hE (by omega) hP hv
        have SR := Lib.hid fun w hP => rtextp A n c P w hn hP hv
        generalize (⟨(ptx (pml P n)).toArray⟩ : ByteArray) = q at ST SR
        clear h2 HSZ hv hn hE hP g1 g2
        go_enter Tryz.func3, Tryz.ntmps3
        go_wp2_with (first
          | (go_at_call 14
             with_reducible refine (SQ.out _ _ _ _ _ _ _ HI8.out HJ8.out).mono ?_
             rintro e w9 ⟨rfl, hb9⟩
             have H9 := Lib.hid (below_step H8.out hb9)
             have y0 := (B8.out.call hb9).cell 0
             have y1 := (B8.out.call hb9).cell 1
             have z0 := (C8.out.call hb9).cell 0
             have z1 := (C8.out.call hb9).cell 1
             have ly := (B8.out.call hb9).lt
             have lz := (C8.out.call hb9).lt
             simp only [List.getElem?_toArray, List.getElem?_cons_zero, List.getElem?_cons_succ, Array.set!_eq_setIfInBounds, List.setIfInBounds_toArray, List.set_cons_zero, List.set_cons_succ] at y0 y1 z0 z1
             clear hb9)
          | (go_at_call 13
             with_reducible refine (SF.out _).mono ?_
             rintro e w7 ⟨L', er', A7, c7, hq, rfl, hin, hb7⟩
             obtain ⟨rfl, rfl⟩ := HUN.out _ _ _ _ HQ6.out hq
             have H7 := below_step H6.out hb7
             have BL := ((Below.refl w7.heap.size w7).alloc (Nat.le_refl _) (.cells #[.int .i64 0, .int .i64 0] 33))
             have H8 := Lib.hid (below_step H7 BL)
             have HI8 := Lib.hid ((HI6.out.below (Nat.le_refl _) hb7).below (Nat.le_refl _) BL)
             have HJ8 := Lib.hid (hin.below (Nat.le_refl _) BL)
             have B8 := Lib.hid ((B6.out.call hb7).call BL)
             have C8 := Lib.hid (Blk.new w7 33 #[.int .i64 0, .int .i64 0])
             have hc8 := C8.out
             have n7 := w7.heap.size
             clear hb7 hin hq BL H7 hc8 n7)
          | (go_at_call 12
             with_reducible refine (SP.out _ (HE.out.below H5.out)).mono ?_
             rintro e w6 ⟨L, er, A6, c6, hq, rfl, hin, hb6⟩
             have BW := (Below.refl w6.heap.size w6).alloc (Nat.le_refl _) (.cells #[.int .i64 0, .int .i64 0] 33)
             have HQ6 := Lib.hid hq
             have H6 := Lib.hid ((below_step H5.out hb6).alloc (below_step H5.out hb6).size (.cells #[.int .i64 0, .int .i64 0] 33))
             have HI6 := Lib.hid (hin.below (Nat.le_refl _) BW)
             have B6 := Lib.hid (Blk.new w6 33 #[.int .i64 0, .int .i64 0])
             clear hb6 hin hq BW)
          | (go_at_call 11
             with_reducible refine (SR.out _ (HP.out.below (Nat.le_refl _) H4.out)).mono ?_
             rintro e w5 ⟨rfl, hb5⟩
             have H5 := Lib.hid (below_step H4.out hb5)
             clear hb5)
          | (go_at_call 8
             with_reducible refine (ST.out _ (HE.out.below H2.out) (HP.out.below (Nat.le_refl _) H2.out)).mono ?_
             rintro e w3 ⟨rfl, hb3⟩
             have H3 := Lib.hid (below_step H2.out hb3)
             clear hb3)
          | (go_at_call 6
             with_reducible refine (SI.out _ (HPS.out.below (Nat.le_refl _) H3.out)).mono ?_
             rintro e w4 ⟨rfl, hb4⟩
             have H4 := Lib.hid (below_step H3.out hb4)
             clear hb4)
          | (go_at_call 5
             with_reducible refine (SA.out _ HE.out).mono ?_
             rintro e w1 ⟨rfl, hb1⟩
             have H1 := Lib.hid hb1
             clear hb1)
          | (go_at_call 6
             with_reducible refine (SL.out _ (HP.out.below (Nat.le_refl _) H1.out)).mono ?_
             rintro e w2 ⟨rfl, hb2⟩
             have H2 := Lib.hid (below_step H1.out hb2)
             clear hb2))
        go_ret
        exact ⟨by first | rfl | (simp), H9.out⟩
      · have hbad : ∃ k, k < n ∧ ¬ okP (P.at k) := by
          obtain ⟨k, hk⟩ := Classical.not_forall.1 hv
          obtain ⟨h1, h2⟩ := Classical.not_imp.1 hk
          exact ⟨k, h1, h2⟩
        have ST := Lib.hid fun w hP => txt_arg A n c P w (by omega) hP hbad
        have SI := Lib.hid fun w hP => has_rinv A n c P w (by omega) hP true ⟨fun _ => by
          obtain ⟨j, hj, hb⟩ := hbad
          refine ⟨j, hj, ?_⟩
          have h1 : validB (P.Nm j) (P.Nd j) (P.Ev j) (P.Vol j) (P.Tot j) = false := by simpa [okP, Pms.at] using hb
          show (!_) = true
          rw [h1]; rfl, fun _ => rfl⟩
        clear h2 HSZ hv hn hE hP g1 g2 hbad
        go_enter Tryz.func3, Tryz.ntmps3
        go_wp2_with (first
          | (go_at_call 14
             with_reducible refine (SQ.out _ _ _ _ _ _ _ HI8.out HJ8.out).mono ?_
             rintro e w9 ⟨rfl, hb9⟩
             have H9 := Lib.hid (below_step H8.out hb9)
             have y0 := (B8.out.call hb9).cell 0
             have y1 := (B8.out.call hb9).cell 1
             have z0 := (C8.out.call hb9).cell 0
             have z1 := (C8.out.call hb9).cell 1
             have ly := (B8.out.call hb9).lt
             have lz := (C8.out.call hb9).lt
             simp only [List.getElem?_toArray, List.getElem?_cons_zero, List.getElem?_cons_succ, Array.set!_eq_setIfInBounds, List.setIfInBounds_toArray, List.set_cons_zero, List.set_cons_succ] at y0 y1 z0 z1
             clear hb9)
          | (go_at_call 13
             with_reducible refine (SF.out _).mono ?_
             rintro e w7 ⟨L', er', A7, c7, hq, rfl, hin, hb7⟩
             obtain ⟨rfl, rfl⟩ := HUN.out _ _ _ _ HQ6.out hq
             have H7 := below_step H6.out hb7
             have BL := ((Below.refl w7.heap.size w7).alloc (Nat.le_refl _) (.cells #[.int .i64 0, .int .i64 0] 33))
             have H8 := Lib.hid (below_step H7 BL)
             have HI8 := Lib.hid ((HI6.out.below (Nat.le_refl _) hb7).below (Nat.le_refl _) BL)
             have HJ8 := Lib.hid (hin.below (Nat.le_refl _) BL)
             have B8 := Lib.hid ((B6.out.call hb7).call BL)
             have C8 := Lib.hid (Blk.new w7 33 #[.int .i64 0, .int .i64 0])
             have hc8 := C8.out
             have n7 := w7.heap.size
             clear hb7 hin hq BL H7 hc8 n7)
          | (go_at_call 12
             with_reducible refine (SP.out _ (HE.out.below H5.out)).mono ?_
             rintro e w6 ⟨L, er, A6, c6, hq, rfl, hin, hb6⟩
             have BW := (Below.refl w6.heap.size w6).alloc (Nat.le_refl _) (.cells #[.int .i64 0, .int .i64 0] 33)
             have HQ6 := Lib.hid hq
             have H6 := Lib.hid ((below_step H5.out hb6).alloc (below_step H5.out hb6).size (.cells #[.int .i64 0, .int .i64 0] 33))
             have HI6 := Lib.hid (hin.below (Nat.le_refl _) BW)
             have B6 := Lib.hid (Blk.new w6 33 #[.int .i64 0, .int .i64 0])
             clear hb6 hin hq BW)
          | (go_at_call 8
             with_reducible refine (ST.out _ (HPS.out.below (Nat.le_refl _) H2.out)).mono ?_
             rintro e w3 ⟨rfl, hb3⟩
             have H3 := Lib.hid (below_step H2.out hb3)
             clear hb3)
          | (go_at_call 6
             with_reducible refine (SI.out _ (HPS.out.below (Nat.le_refl _) H3.out)).mono ?_
             rintro e w4 ⟨rfl, hb4⟩
             have H5 := Lib.hid (below_step H3.out hb4)
             clear hb4)
          | (go_at_call 5
             with_reducible refine (SA.out _ HE.out).mono ?_
             rintro e w1 ⟨rfl, hb1⟩
             have H1 := Lib.hid hb1
             clear hb1)
          | (go_at_call 6
             with_reducible refine (SL.out _ (HP.out.below (Nat.le_refl _) H1.out)).mono ?_
             rintro e w2 ⟨rfl, hb2⟩
             have H2 := Lib.hid (below_step H1.out hb2)
             clear hb2))
        go_ret
        exact ⟨by first | rfl | (simp), H9.out⟩
    · have SP := Lib.hid fun w hE => tp_k1 s (by omega) g2 w hE
      have SF := Lib.hid fun w => rp_k1 s (by omega) g2 w
      have HUN := Lib.hid fun (L L' : List Pmr) (k k' : Nat) (er er' : Int) (h : PmIs s.data.toList L k er) (h' : PmIs s.data.toList L' k' er') => h.uniq h'
      by_cases hv : ∀ k, k < n → okP (P.at k)
      · have SI := Lib.hid fun w hP => has_rinv A n c P w (by omega) hP false ⟨fun h => (by cases h), fun ⟨j, hj, hb⟩ => by
          have h1 : validB (P.Nm j) (P.Nd j) (P.Ev j) (P.Vol j) (P.Tot j) = true := hv j hj
          have hb' : (!_) = true := hb
          rw [h1] at hb'; cases hb'⟩
        have ST := Lib.hid fun w hE hP => txt_ok A n c P w hE (by omega) hP hv
        have SR := Lib.hid fun w hP => rtextp A n c P w hn hP hv
        generalize (⟨(ptx (pml P n)).toArray⟩ : ByteArray) = q at ST SR
        clear h2 HSZ hv hn hE hP g1 g2
        go_enter Tryz.func3, Tryz.ntmps3
        go_wp2_with (first
          | (go_at_call 14
             with_reducible refine (SQ.out _ _ _ _ _ _ _ HI8.out HJ8.out).mono ?_
             rintro e w9 ⟨rfl, hb9⟩
             have H9 := Lib.hid (below_step H8.out hb9)
             have y0 := (B8.out.call hb9).cell 0
             have y1 := (B8.out.call hb9).cell 1
             have z0 := (C8.out.call hb9).cell 0
             have z1 := (C8.out.call hb9).cell 1
             have ly := (B8.out.call hb9).lt
             have lz := (C8.out.call hb9).lt
             simp only [List.getElem?_toArray, List.getElem?_cons_zero, List.getElem?_cons_succ, Array.set!_eq_setIfInBounds, List.setIfInBounds_toArray, List.set_cons_zero, List.set_cons_succ] at y0 y1 z0 z1
             clear hb9)
          | (go_at_call 13
             with_reducible refine (SF.out _).mono ?_
             rintro e w7 ⟨L', k', er', A7, c7, hk0', hq, rfl, hin, hb7⟩
             obtain ⟨rfl, rfl, rfl⟩ := HUN.out _ _ _ _ _ _ HQ6.out hq
             have H7 := below_step H6.out hb7
             have BL := ((Below.refl w7.heap.size w7).alloc (Nat.le_refl _) (.cells #[.int .i64 (k : Int), .int .i64 1] 33))
             have H8 := Lib.hid (below_step H7 BL)
             have HI8 := Lib.hid ((HI6.out.below (Nat.le_refl _) hb7).below (Nat.le_refl _) BL)
             have HJ8 := Lib.hid (hin.below (Nat.le_refl _) BL)
             have B8 := Lib.hid ((B6.out.call hb7).call BL)
             have C8 := Lib.hid (Blk.new w7 33 #[.int .i64 (k : Int), .int .i64 1])
             have hc8 := C8.out
             have n7 := w7.heap.size
             have tk1 : decide ((0 : Int) < (k : Int)) = true := decide_eq_true (by omega)
             have tk2 : decide (0 < k) = true := decide_eq_true (by omega)
             have m0 := (Blk.new w7 33 #[.int .i64 0, .int .i64 0]).cell 0
             have m1 := (Blk.new w7 33 #[.int .i64 0, .int .i64 0]).cell 1
             have mf0 := (Blk.new w7 33 #[.int .i64 0, .int .i64 0]).frozen 0
             have mf1 := (Blk.new w7 33 #[.int .i64 0, .int .i64 0]).frozen 1
             simp only [List.getElem?_toArray, List.getElem?_cons_zero, List.getElem?_cons_succ] at m0 m1
             clear hb7 hin hq BL H7 hc8 n7)
          | (go_at_call 12
             with_reducible refine (SP.out _ (HE.out.below H5.out)).mono ?_
             rintro e w6 ⟨L, k, er, A6, c6, hk0, hq, rfl, hin, hb6⟩
             have BW := (Below.refl w6.heap.size w6).alloc (Nat.le_refl _) (.cells #[.int .i64 (k : Int), .int .i64 1] 33)
             have HQ6 := Lib.hid hq
             have H6 := Lib.hid ((below_step H5.out hb6).alloc (below_step H5.out hb6).size (.cells #[.int .i64 (k : Int), .int .i64 1] 33))
             have HI6 := Lib.hid (hin.below (Nat.le_refl _) BW)
             have B6 := Lib.hid (Blk.new w6 33 #[.int .i64 (k : Int), .int .i64 1])
             clear hb6 hin hq BW)
          | (go_at_call 11
             with_reducible refine (SR.out _ (HP.out.below (Nat.le_refl _) H4.out)).mono ?_
             rintro e w5 ⟨rfl, hb5⟩
             have H5 := Lib.hid (below_step H4.out hb5)
             clear hb5)
          | (go_at_call 8
             with_reducible refine (ST.out _ (HE.out.below H2.out) (HP.out.below (Nat.le_refl _) H2.out)).mono ?_
             rintro e w3 ⟨rfl, hb3⟩
             have H3 := Lib.hid (below_step H2.out hb3)
             clear hb3)
          | (go_at_call 6
             with_reducible refine (SI.out _ (HPS.out.below (Nat.le_refl _) H3.out)).mono ?_
             rintro e w4 ⟨rfl, hb4⟩
             have H4 := Lib.hid (below_step H3.out hb4)
             clear hb4)
          | (go_at_call 5
             with_reducible refine (SA.out _ HE.out).mono ?_
             rintro e w1 ⟨rfl, hb1⟩
             have H1 := Lib.hid hb1
             clear hb1)
          | (go_at_call 6
             with_reducible refine (SL.out _ (HP.out.below (Nat.le_refl _) H1.out)).mono ?_
             rintro e w2 ⟨rfl, hb2⟩
             have H2 := Lib.hid (below_step H1.out hb2)
             clear hb2))
        go_ret
        exact ⟨by first | rfl | (simp), H9.out⟩
      · have hbad : ∃ k, k < n ∧ ¬ okP (P.at k) := by
          obtain ⟨k, hk⟩ := Classical.not_forall.1 hv
          obtain ⟨h1, h2⟩ := Classical.not_imp.1 hk
          exact ⟨k, h1, h2⟩
        have ST := Lib.hid fun w hP => txt_arg A n c P w (by omega) hP hbad
        have SI := Lib.hid fun w hP => has_rinv A n c P w (by omega) hP true ⟨fun _ => by
          obtain ⟨j, hj, hb⟩ := hbad
          refine ⟨j, hj, ?_⟩
          have h1 : validB (P.Nm j) (P.Nd j) (P.Ev j) (P.Vol j) (P.Tot j) = false := by simpa [okP, Pms.at] using hb
          show (!_) = true
          rw [h1]; rfl, fun _ => rfl⟩
        clear h2 HSZ hv hn hE hP g1 g2 hbad
        go_enter Tryz.func3, Tryz.ntmps3
        go_wp2_with (first
          | (go_at_call 14
             with_reducible refine (SQ.out _ _ _ _ _ _ _ HI8.out HJ8.out).mono ?_
             rintro e w9 ⟨rfl, hb9⟩
             have H9 := Lib.hid (below_step H8.out hb9)
             have y0 := (B8.out.call hb9).cell 0
             have y1 := (B8.out.call hb9).cell 1
             have z0 := (C8.out.call hb9).cell 0
             have z1 := (C8.out.call hb9).cell 1
             have ly := (B8.out.call hb9).lt
             have lz := (C8.out.call hb9).lt
             simp only [List.getElem?_toArray, List.getElem?_cons_zero, List.getElem?_cons_succ, Array.set!_eq_setIfInBounds, List.setIfInBounds_toArray, List.set_cons_zero, List.set_cons_succ] at y0 y1 z0 z1
             clear hb9)
          | (go_at_call 13
             with_reducible refine (SF.out _).mono ?_
             rintro e w7 ⟨L', k', er', A7, c7, hk0', hq, rfl, hin, hb7⟩
             obtain ⟨rfl, rfl, rfl⟩ := HUN.out _ _ _ _ _ _ HQ6.out hq
             have H7 := below_step H6.out hb7
             have BL := ((Below.refl w7.heap.size w7).alloc (Nat.le_refl _) (.cells #[.int .i64 (k : Int), .int .i64 1] 33))
             have H8 := Lib.hid (below_step H7 BL)
             have HI8 := Lib.hid ((HI6.out.below (Nat.le_refl _) hb7).below (Nat.le_refl _) BL)
             have HJ8 := Lib.hid (hin.below (Nat.le_refl _) BL)
             have B8 := Lib.hid ((B6.out.call hb7).call BL)
             have C8 := Lib.hid (Blk.new w7 33 #[.int .i64 (k : Int), .int .i64 1])
             have hc8 := C8.out
             have n7 := w7.heap.size
             have tk1 : decide ((0 : Int) < (k : Int)) = true := decide_eq_true (by omega)
             have tk2 : decide (0 < k) = true := decide_eq_true (by omega)
             have m0 := (Blk.new w7 33 #[.int .i64 0, .int .i64 0]).cell 0
             have m1 := (Blk.new w7 33 #[.int .i64 0, .int .i64 0]).cell 1
             have mf0 := (Blk.new w7 33 #[.int .i64 0, .int .i64 0]).frozen 0
             have mf1 := (Blk.new w7 33 #[.int .i64 0, .int .i64 0]).frozen 1
             simp only [List.getElem?_toArray, List.getElem?_cons_zero, List.getElem?_cons_succ] at m0 m1
             clear hb7 hin hq BL H7 hc8 n7)
          | (go_at_call 12
             with_reducible refine (SP.out _ (HE.out.below H5.out)).mono ?_
             rintro e w6 ⟨L, k, er, A6, c6, hk0, hq, rfl, hin, hb6⟩
             have BW := (Below.refl w6.heap.size w6).alloc (Nat.le_refl _) (.cells #[.int .i64 (k : Int), .int .i64 1] 33)
             have HQ6 := Lib.hid hq
             have H6 := Lib.hid ((below_step H5.out hb6).alloc (below_step H5.out hb6).size (.cells #[.int .i64 (k : Int), .int .i64 1] 33))
             have HI6 := Lib.hid (hin.below (Nat.le_refl _) BW)
             have B6 := Lib.hid (Blk.new w6 33 #[.int .i64 (k : Int), .int .i64 1])
             clear hb6 hin hq BW)
          | (go_at_call 8
             with_reducible refine (ST.out _ (HPS.out.below (Nat.le_refl _) H2.out)).mono ?_
             rintro e w3 ⟨rfl, hb3⟩
             have H3 := Lib.hid (below_step H2.out hb3)
             clear hb3)
          | (go_at_call 6
             with_reducible refine (SI.out _ (HPS.out.below (Nat.le_refl _) H3.out)).mono ?_
             rintro e w4 ⟨rfl, hb4⟩
             have H5 := Lib.hid (below_step H3.out hb4)
             clear hb4)
          | (go_at_call 5
             with_reducible refine (SA.out _ HE.out).mono ?_
             rintro e w1 ⟨rfl, hb1⟩
             have H1 := Lib.hid hb1
             clear hb1)
          | (go_at_call 6
             with_reducible refine (SL.out _ (HP.out.below (Nat.le_refl _) H1.out)).mono ?_
             rintro e w2 ⟨rfl, hb2⟩
             have H2 := Lib.hid (below_step H1.out hb2)
             clear hb2))
        go_ret
        exact ⟨by first | rfl | (simp), H9.out⟩
  have u1 : decide ((2000 : Int) < (s.size : Int)) = true := decide_eq_true (by omega)
  have u1' : decide (2000 < s.size) = true := decide_eq_true g1
  by_cases g2 : s.size ≤ 262144
  · have u2 : decide ((s.size : Int) ≤ 262144) = true := decide_eq_true (by omega)
    have u2' : decide (s.size ≤ 262144) = true := decide_eq_true g2
    clear h2 HSZ g1 g2 hn hE hP
    go_enter Tryz.func3, Tryz.ntmps3
    go_wp2_with (first
      | (go_at_call 5
         with_reducible refine (SA.out _ HE.out).mono ?_
         rintro e w1 ⟨rfl, hb1⟩
         have H1 := Lib.hid hb1
         clear hb1)
      | (go_at_call 6
         with_reducible refine (SL.out _ (HP.out.below (Nat.le_refl _) H1.out)).mono ?_
         rintro e w2 ⟨rfl, hb2⟩
         have H2 := Lib.hid (below_step H1.out hb2)
         clear hb2))
    go_ret
    exact ⟨by first | rfl | (simp), H2.out⟩
  have u2 : decide ((s.size : Int) ≤ 262144) = false := decide_eq_false (by omega)
  have u2' : decide (s.size ≤ 262144) = false := decide_eq_false g2
  by_cases g3 : 262154 < s.size
  · have u3 : decide ((262154 : Int) < (s.size : Int)) = true := decide_eq_true (by omega)
    have u3' : decide (262154 < s.size) = true := decide_eq_true g3
    clear h2 HSZ g1 g2 g3 hn hE hP
    go_enter Tryz.func3, Tryz.ntmps3
    go_wp2_with (first
      | (go_at_call 5
         with_reducible refine (SA.out _ HE.out).mono ?_
         rintro e w1 ⟨rfl, hb1⟩
         have H1 := Lib.hid hb1
         clear hb1)
      | (go_at_call 6
         with_reducible refine (SL.out _ (HP.out.below (Nat.le_refl _) H1.out)).mono ?_
         rintro e w2 ⟨rfl, hb2⟩
         have H2 := Lib.hid (below_step H1.out hb2)
         clear hb2))
    go_ret
    exact ⟨by first | rfl | (simp), H2.out⟩
  have u3 : decide ((262154 : Int) < (s.size : Int)) = false := decide_eq_false (by omega)
  have u3' : decide (262154 < s.size) = false := decide_eq_false g3
  have SP := Lib.hid fun w hE => tp_k0l s (by omega) w hE
  have SF := Lib.hid fun w => rp_k0l s (by omega) w
  have HUN := Lib.hid fun (L L' : List Pmr) (er er' : Int) (h : QK0 s L er) (h' : QK0 s L' er') => h.uniq h'
  by_cases hv : ∀ k, k < n → okP (P.at k)
  · have SI := Lib.hid fun w hP => has_rinv A n c P w (by omega) hP false ⟨fun h => (by cases h), fun ⟨j, hj, hb⟩ => by
      have h1 : validB (P.Nm j) (P.Nd j) (P.Ev j) (P.Vol j) (P.Tot j) = true := hv j hj
      have hb' : (!_) = true := hb
      rw [h1] at hb'; cases hb'⟩
    have ST := Lib.hid fun w hE hP => txt_ok A n c P w hE (by omega) hP hv
    have SR := Lib.hid fun w hP => rtextp A n c P w hn hP hv
    generalize (⟨(ptx (pml P n)).toArray⟩ : ByteArray) = q at ST SR
    clear h2 HSZ hv hn hE hP g1 g2 g3
    go_enter Tryz.func3, Tryz.ntmps3
    go_wp2_with (first
      | (go_at_call 14
         with_reducible refine (SQ.out _ _ _ _ _ _ _ HI8.out HJ8.out).mono ?_
         rintro e w9 ⟨rfl, hb9⟩
         have H9 := Lib.hid (below_step H8.out hb9)
         have y0 := (B8.out.call hb9).cell 0
         have y1 := (B8.out.call hb9).cell 1
         have z0 := (C8.out.call hb9).cell 0
         have z1 := (C8.out.call hb9).cell 1
         have ly := (B8.out.call hb9).lt
         have lz := (C8.out.call hb9).lt
         simp only [List.getElem?_toArray, List.getElem?_cons_zero, List.getElem?_cons_succ, Array.set!_eq_setIfInBounds, List.setIfInBounds_toArray, List.set_cons_zero, List.set_cons_succ] at y0 y1 z0 z1
         clear hb9)
      | (go_at_call 13
         with_reducible refine (SF.out _).mono ?_
         rintro e w7 ⟨L', er', A7, c7, hq, rfl, hin, hb7⟩
         obtain ⟨rfl, rfl⟩ := HUN.out _ _ _ _ HQ6.out hq
         have H7 := below_step H6.out hb7
         have BL := ((Below.refl w7.heap.size w7).alloc (Nat.le_refl _) (.cells #[.int .i64 0, .int .i64 0] 33))
         have H8 := Lib.hid (below_step H7 BL)
         have HI8 := Lib.hid ((HI6.out.below (Nat.le_refl _) hb7).below (Nat.le_refl _) BL)
         have HJ8 := Lib.hid (hin.below (Nat.le_refl _) BL)
         have B8 := Lib.hid ((B6.out.call hb7).call BL)
         have C8 := Lib.hid (Blk.new w7 33 #[.int .i64 0, .int .i64 0])
         have hc8 := C8.out
         have n7 := w7.heap.size
         clear hb7 hin hq BL H7 hc8 n7)
      | (go_at_call 12
         with_reducible refine (SP.out _ (HE.out.below H5.out)).mono ?_
         rintro e w6 ⟨L, er, A6, c6, hq, rfl, hin, hb6⟩
         have BW := (Below.refl w6.heap.size w6).alloc (Nat.le_refl _) (.cells #[.int .i64 0, .int .i64 0] 33)
         have HQ6 := Lib.hid hq
         have H6 := Lib.hid ((below_step H5.out hb6).alloc (below_step H5.out hb6).size (.cells #[.int .i64 0, .int .i64 0] 33))
         have HI6 := Lib.hid (hin.below (Nat.le_refl _) BW)
         have B6 := Lib.hid (Blk.new w6 33 #[.int .i64 0, .int .i64 0])
         clear hb6 hin hq BW)
      | (go_at_call 11
         with_reducible refine (SR.out _ (HP.out.below (Nat.le_refl _) H4.out)).mono ?_
         rintro e w5 ⟨rfl, hb5⟩
         have H5 := Lib.hid (below_step H4.out hb5)
         clear hb5)
      | (go_at_call 8
         with_reducible refine (ST.out _ (HE.out.below H2.out) (HP.out.below (Nat.le_refl _) H2.out)).mono ?_
         rintro e w3 ⟨rfl, hb3⟩
         have H3 := Lib.hid (below_step H2.out hb3)
         clear hb3)
      | (go_at_call 6
         with_reducible refine (SI.out _ (HPS.out.below (Nat.le_refl _) H3.out)).mono ?_
         rintro e w4 ⟨rfl, hb4⟩
         have H4 := Lib.hid (below_step H3.out hb4)
         clear hb4)
      | (go_at_call 5
         with_reducible refine (SA.out _ HE.out).mono ?_
         rintro e w1 ⟨rfl, hb1⟩
         have H1 := Lib.hid hb1
         clear hb1)
      | (go_at_call 6
         with_reducible refine (SL.out _ (HP.out.below (Nat.le_refl _) H1.out)).mono ?_
         rintro e w2 ⟨rfl, hb2⟩
         have H2 := Lib.hid (below_step H1.out hb2)
         clear hb2))
    go_ret
    exact ⟨by first | rfl | (simp), H9.out⟩
  · have hbad : ∃ k, k < n ∧ ¬ okP (P.at k) := by
      obtain ⟨k, hk⟩ := Classical.not_forall.1 hv
      obtain ⟨h1, h2⟩ := Classical.not_imp.1 hk
      exact ⟨k, h1, h2⟩
    have ST := Lib.hid fun w hP => txt_arg A n c P w (by omega) hP hbad
    have SI := Lib.hid fun w hP => has_rinv A n c P w (by omega) hP true ⟨fun _ => by
      obtain ⟨j, hj, hb⟩ := hbad
      refine ⟨j, hj, ?_⟩
      have h1 : validB (P.Nm j) (P.Nd j) (P.Ev j) (P.Vol j) (P.Tot j) = false := by simpa [okP, Pms.at] using hb
      show (!_) = true
      rw [h1]; rfl, fun _ => rfl⟩
    clear h2 HSZ hv hn hE hP g1 g2 g3 hbad
    go_enter Tryz.func3, Tryz.ntmps3
    go_wp2_with (first
      | (go_at_call 14
         with_reducible refine (SQ.out _ _ _ _ _ _ _ HI8.out HJ8.out).mono ?_
         rintro e w9 ⟨rfl, hb9⟩
         have H9 := Lib.hid (below_step H8.out hb9)
         have y0 := (B8.out.call hb9).cell 0
         have y1 := (B8.out.call hb9).cell 1
         have z0 := (C8.out.call hb9).cell 0
         have z1 := (C8.out.call hb9).cell 1
         have ly := (B8.out.call hb9).lt
         have lz := (C8.out.call hb9).lt
         simp only [List.getElem?_toArray, List.getElem?_cons_zero, List.getElem?_cons_succ, Array.set!_eq_setIfInBounds, List.setIfInBounds_toArray, List.set_cons_zero, List.set_cons_succ] at y0 y1 z0 z1
         clear hb9)
      | (go_at_call 13
         with_reducible refine (SF.out _).mono ?_
         rintro e w7 ⟨L', er', A7, c7, hq, rfl, hin, hb7⟩
         obtain ⟨rfl, rfl⟩ := HUN.out _ _ _ _ HQ6.out hq
         have H7 := below_step H6.out hb7
         have BL := ((Below.refl w7.heap.size w7).alloc (Nat.le_refl _) (.cells #[.int .i64 0, .int .i64 0] 33))
         have H8 := Lib.hid (below_step H7 BL)
         have HI8 := Lib.hid ((HI6.out.below (Nat.le_refl _) hb7).below (Nat.le_refl _) BL)
         have HJ8 := Lib.hid (hin.below (Nat.le_refl _) BL)
         have B8 := Lib.hid ((B6.out.call hb7).call BL)
         have C8 := Lib.hid (Blk.new w7 33 #[.int .i64 0, .int .i64 0])
         have hc8 := C8.out
         have n7 := w7.heap.size
         clear hb7 hin hq BL H7 hc8 n7)
      | (go_at_call 12
         with_reducible refine (SP.out _ (HE.out.below H5.out)).mono ?_
         rintro e w6 ⟨L, er, A6, c6, hq, rfl, hin, hb6⟩
         have BW := (Below.refl w6.heap.size w6).alloc (Nat.le_refl _) (.cells #[.int .i64 0, .int .i64 0] 33)
         have HQ6 := Lib.hid hq
         have H6 := Lib.hid ((below_step H5.out hb6).alloc (below_step H5.out hb6).size (.cells #[.int .i64 0, .int .i64 0] 33))
         have HI6 := Lib.hid (hin.below (Nat.le_refl _) BW)
         have B6 := Lib.hid (Blk.new w6 33 #[.int .i64 0, .int .i64 0])
         clear hb6 hin hq BW)
      | (go_at_call 8
         with_reducible refine (ST.out _ (HPS.out.below (Nat.le_refl _) H2.out)).mono ?_
         rintro e w3 ⟨rfl, hb3⟩
         have H3 := Lib.hid (below_step H2.out hb3)
         clear hb3)
      | (go_at_call 6
         with_reducible refine (SI.out _ (HPS.out.below (Nat.le_refl _) H3.out)).mono ?_
         rintro e w4 ⟨rfl, hb4⟩
         have H5 := Lib.hid (below_step H3.out hb4)
         clear hb4)
      | (go_at_call 5
         with_reducible refine (SA.out _ HE.out).mono ?_
         rintro e w1 ⟨rfl, hb1⟩
         have H1 := Lib.hid hb1
         clear hb1)
      | (go_at_call 6
         with_reducible refine (SL.out _ (HP.out.below (Nat.le_refl _) H1.out)).mono ?_
         rintro e w2 ⟨rfl, hb2⟩
         have H2 := Lib.hid (below_step H1.out hb2)
         clear hb2))
    go_ret
    exact ⟨by first | rfl | (simp), H9.out⟩
set_option maxRecDepth 100000 in
set_option maxHeartbeats 8000000 in
theorem pt_big (A : Option Addr) (n c : Nat) (P : Pms) (s : ByteArray) (w : World) (hP : PmIn w A n P) (hE : Env5 w) (hn : 1000 < n) (hn2 : n ≤ 1005) :
    Calls Tryz.prog 3 #[.slice A n c, .string s] w fun e w' => e = .returned (.bool true) ∧ Below w.heap.size w w' := by
  have SA := Lib.hid fun w (hE : Env5 w) => caw w hE.1
  have HE := Lib.hid hE
  have HP := Lib.hid hP
  have t1 : decide ((20 : Int) < (n : Int)) = true := decide_eq_true (by omega)
  have t1' : decide (20 < n) = true := decide_eq_true (by omega)
  have t2 : decide ((n : Int) ≤ 1000) = false := decide_eq_false (by omega)
  have t2' : decide (n ≤ 1000) = false := decide_eq_false (by omega)
  have t3 : decide ((1005 : Int) < (n : Int)) = false := decide_eq_false (by omega)
  have t3' : decide (1005 < n) = false := decide_eq_false (by omega)
  have t4 : decide ((1000 : Int) < (n : Int)) = true := decide_eq_true (by omega)
  have t4' : decide (1000 < n) = true := decide_eq_true (by omega)
  by_cases h2 : ∃ j, j < n ∧ (fun j => decide (60 < (P.Nm j).size ∨ 60 < (P.Nd j).size)) j = true
  · have SL := Lib.hid fun w hP => has_lng A n c P w (by omega) hP true ⟨fun _ => h2, fun _ => rfl⟩
    clear h2 hn hn2 hE hP
    go_enter Tryz.func3, Tryz.ntmps3
    go_wp2_with (first
      | (go_at_call 5
         with_reducible refine (SA.out _ HE.out).mono ?_
         rintro e w1 ⟨rfl, hb1⟩
         have H1 := Lib.hid hb1
         clear hb1)
      | (go_at_call 6
         with_reducible refine (SL.out _ (HP.out.below (Nat.le_refl _) H1.out)).mono ?_
         rintro e w2 ⟨rfl, hb2⟩
         have H2 := Lib.hid (below_step H1.out hb2)
         clear hb2))
    go_ret
    exact ⟨by first | rfl | (simp), H2.out⟩
  have SL := Lib.hid fun w hP => has_lng A n c P w (by omega) hP false ⟨fun h => (by cases h), fun h => absurd h h2⟩
  have HSZ : ∀ k, k < n → (P.Nm k).size ≤ maxLen ∧ (P.Nd k).size ≤ maxLen := fun k hk => by
    have : ¬ (60 < (P.Nm k).size ∨ 60 < (P.Nd k).size) := fun g => h2 ⟨k, hk, decide_eq_true g⟩
    unfold maxLen; omega
  have HPS : Hid (PmS w A n P) := ⟨hP, HSZ⟩
  have SQ := Lib.hid fun (A B : Option Addr) (N c d : Nat) (P : Pms) w hA hB => pequal A B N c d P P w hA hB (fun _ _ => rfl)
  by_cases g1 : 2000 < s.size
  case neg =>
    have u1 : decide ((2000 : Int) < (s.size : Int)) = false := decide_eq_false (by omega)
    have u1' : decide (2000 < s.size) = false := decide_eq_false g1
    have u3 : decide ((262154 : Int) < (s.size : Int)) = false := decide_eq_false (by omega)
    have u3' : decide (262154 < s.size) = false := decide_eq_false (by omega)
    by_cases g2 : ∃ L er, PmIs s.data.toList L 0 er
    · have SP := Lib.hid fun w hE => tp_k0 s (by omega) g2 w hE
      have SF := Lib.hid fun w => rp_k0 s (by omega) g2 w
      have HUN := Lib.hid fun (L L' : List Pmr) (er er' : Int) (h : QK0 s L er) (h' : QK0 s L' er') => h.uniq h'
      by_cases hv : ∀ k, k < n → okP (P.at k)
      · have SI := Lib.hid fun w hP => has_rinv A n c P w (by omega) hP false ⟨fun h => (by cases h), fun ⟨j, hj, hb⟩ => by
          have h1 : validB (P.Nm j) (P.Nd j) (P.Ev j) (P.Vol j) (P.Tot j) = true := hv j hj
          have hb' : (!_) = true := hb
          rw [h1] at hb'; cases hb'⟩
        have ST := Lib.hid fun w hP => txt_full A n c P w (by omega) hn hP hv
        clear h2 HSZ hv hn hn2 hE hP g1 g2
        go_enter Tryz.func3, Tryz.ntmps3
        go_wp2_with (first
          | (go_at_call 14
             with_reducible refine (SQ.out _ _ _ _ _ _ _ HI8.out HJ8.out).mono ?_
             rintro e w9 ⟨rfl, hb9⟩
             have H9 := Lib.hid (below_step H8.out hb9)
             have y0 := (B8.out.call hb9).cell 0
             have y1 := (B8.out.call hb9).cell 1
             have z0 := (C8.out.call hb9).cell 0
             have z1 := (C8.out.call hb9).cell 1
             have ly := (B8.out.call hb9).lt
             have lz := (C8.out.call hb9).lt
             simp only [List.getElem?_toArray, List.getElem?_cons_zero, List.getElem?_cons_succ, Array.set!_eq_setIfInBounds, List.setIfInBounds_toArray, List.set_cons_zero, List.set_cons_succ] at y0 y1 z0 z1
             clear hb9)
          | (go_at_call 13
             with_reducible refine (SF.out _).mono ?_
             rintro e w7 ⟨L', er', A7, c7, hq, rfl, hin, hb7⟩
             obtain ⟨rfl, rfl⟩ := HUN.out _ _ _ _ HQ6.out hq
             have H7 := below_step H6.out hb7
             have BL := ((Below.refl w7.heap.size w7).alloc (Nat.le_refl _) (.cells #[.int .i64 0, .int .i64 0] 33))
             have H8 := Lib.hid (below_step H7 BL)
             have HI8 := Lib.hid ((HI6.out.below (Nat.le_refl _) hb7).below (Nat.le_refl _) BL)
             have HJ8 := Lib.hid (hin.below (Nat.le_refl _) BL)
             have B8 := Lib.hid ((B6.out.call hb7).call BL)
             have C8 := Lib.hid (Blk.new w7 33 #[.int .i64 0, .int .i64 0])
             have hc8 := C8.out
             have n7 := w7.heap.size
             clear hb7 hin hq BL H7 hc8 n7)
          | (go_at_call 12
             with_reducible refine (SP.out _ (HE.out.below H5.out)).mono ?_
             rintro e w6 ⟨L, er, A6, c6, hq, rfl, hin, hb6⟩
             have BW := (Below.refl w6.heap.size w6).alloc (Nat.le_refl _) (.cells #[.int .i64 0, .int .i64 0] 33)
             have HQ6 := Lib.hid hq
             have H6 := Lib.hid ((below_step H5.out hb6).alloc (below_step H5.out hb6).size (.cells #[.int .i64 0, .int .i64 0] 33))
             have HI6 := Lib.hid (hin.below (Nat.le_refl _) BW)
             have B6 := Lib.hid (Blk.new w6 33 #[.int .i64 0, .int .i64 0])
             clear hb6 hin hq BW)
          | (go_at_call 8
             with_reducible refine (ST.out _ (HPS.out.below (Nat.le_refl _) H2.out)).mono ?_
             rintro e w3 ⟨rfl, hb3⟩
             have H3 := Lib.hid (below_step H2.out hb3)
             clear hb3)
          | (go_at_call 6
             with_reducible refine (SI.out _ (HPS.out.below (Nat.le_refl _) H3.out)).mono ?_
             rintro e w4 ⟨rfl, hb4⟩
             have H5 := Lib.hid (below_step H3.out hb4)
             clear hb4)
          | (go_at_call 5
             with_reducible refine (SA.out _ HE.out).mono ?_
             rintro e w1 ⟨rfl, hb1⟩
             have H1 := Lib.hid hb1
             clear hb1)
          | (go_at_call 6
             with_reducible refine (SL.out _ (HP.out.below (Nat.le_refl _) H1.out)).mono ?_
             rintro e w2 ⟨rfl, hb2⟩
             have H2 := Lib.hid (below_step H1.out hb2)
             clear hb2))
        go_ret
        exact ⟨by first | rfl | (simp), H9.out⟩
      · have hbad : ∃ k, k < n ∧ ¬ okP (P.at k) := by
          obtain ⟨k, hk⟩ := Classical.not_forall.1 hv
          obtain ⟨h1, h2⟩ := Classical.not_imp.1 hk
          exact ⟨k, h1, h2⟩
        have ST := Lib.hid fun w hP => txt_arg A n c P w (by omega) hP hbad
        have SI := Lib.hid fun w hP => has_rinv A n c P w (by omega) hP true ⟨fun _ => by
          obtain ⟨j, hj, hb⟩ := hbad
          refine ⟨j, hj, ?_⟩
          have h1 : validB (P.Nm j) (P.Nd j) (P.Ev j) (P.Vol j) (P.Tot j) = false := by simpa [okP, Pms.at] using hb
          show (!_) = true
          rw [h1]; rfl, fun _ => rfl⟩
        clear h2 HSZ hv hn hn2 hE hP g1 g2 hbad
        go_enter Tryz.func3, Tryz.ntmps3
        go_wp2_with (first
          | (go_at_call 14
             with_reducible refine (SQ.out _ _ _ _ _ _ _ HI8.out HJ8.out).mono ?_
             rintro e w9 ⟨rfl, hb9⟩
             have H9 := Lib.hid (below_step H8.out hb9)
             have y0 := (B8.out.call hb9).cell 0
             have y1 := (B8.out.call hb9).cell 1
             have z0 := (C8.out.call hb9).cell 0
             have z1 := (C8.out.call hb9).cell 1
             have ly := (B8.out.call hb9).lt
             have lz := (C8.out.call hb9).lt
             simp only [List.getElem?_toArray, List.getElem?_cons_zero, List.getElem?_cons_succ, Array.set!_eq_setIfInBounds, List.setIfInBounds_toArray, List.set_cons_zero, List.set_cons_succ] at y0 y1 z0 z1
             clear hb9)
          | (go_at_call 13
             with_reducible refine (SF.out _).mono ?_
             rintro e w7 ⟨L', er', A7, c7, hq, rfl, hin, hb7⟩
             obtain ⟨rfl, rfl⟩ := HUN.out _ _ _ _ HQ6.out hq
             have H7 := below_step H6.out hb7
             have BL := ((Below.refl w7.heap.size w7).alloc (Nat.le_refl _) (.cells #[.int .i64 0, .int .i64 0] 33))
             have H8 := Lib.hid (below_step H7 BL)
             have HI8 := Lib.hid ((HI6.out.below (Nat.le_refl _) hb7).below (Nat.le_refl _) BL)
             have HJ8 := Lib.hid (hin.below (Nat.le_refl _) BL)
             have B8 := Lib.hid ((B6.out.call hb7).call BL)
             have C8 := Lib.hid (Blk.new w7 33 #[.int .i64 0, .int .i64 0])
             have hc8 := C8.out
             have n7 := w7.heap.size
             clear hb7 hin hq BL H7 hc8 n7)
          | (go_at_call 12
             with_reducible refine (SP.out _ (HE.out.below H5.out)).mono ?_
             rintro e w6 ⟨L, er, A6, c6, hq, rfl, hin, hb6⟩
             have BW := (Below.refl w6.heap.size w6).alloc (Nat.le_refl _) (.cells #[.int .i64 0, .int .i64 0] 33)
             have HQ6 := Lib.hid hq
             have H6 := Lib.hid ((below_step H5.out hb6).alloc (below_step H5.out hb6).size (.cells #[.int .i64 0, .int .i64 0] 33))
             have HI6 := Lib.hid (hin.below (Nat.le_refl _) BW)
             have B6 := Lib.hid (Blk.new w6 33 #[.int .i64 0, .int .i64 0])
             clear hb6 hin hq BW)
          | (go_at_call 8
             with_reducible refine (ST.out _ (HPS.out.below (Nat.le_refl _) H2.out)).mono ?_
             rintro e w3 ⟨rfl, hb3⟩
             have H3 := Lib.hid (below_step H2.out hb3)
             clear hb3)
          | (go_at_call 6
             with_reducible refine (SI.out _ (HPS.out.below (Nat.le_refl _) H3.out)).mono ?_
             rintro e w4 ⟨rfl, hb4⟩
             have H5 := Lib.hid (below_step H3.out hb4)
             clear hb4)
          | (go_at_call 5
             with_reducible refine (SA.out _ HE.out).mono ?_
             rintro e w1 ⟨rfl, hb1⟩
             have H1 := Lib.hid hb1
             clear hb1)
          | (go_at_call 6
             with_reducible refine (SL.out _ (HP.out.below (Nat.le_refl _) H1.out)).mono ?_
             rintro e w2 ⟨rfl, hb2⟩
             have H2 := Lib.hid (below_step H1.out hb2)
             clear hb2))
        go_ret
        exact ⟨by first | rfl | (simp), H9.out⟩
    · have SP := Lib.hid fun w hE => tp_k1 s (by omega) g2 w hE
      have SF := Lib.hid fun w => rp_k1 s (by omega) g2 w
      have HUN := Lib.hid fun (L L' : List Pmr) (k k' : Nat) (er er' : Int) (h : PmIs s.data.toList L k er) (h' : PmIs s.data.toList L' k' er') => h.uniq h'
      by_cases hv : ∀ k, k < n → okP (P.at k)
      · have SI := Lib.hid fun w hP => has_rinv A n c P w (by omega) hP false ⟨fun h => (by cases h), fun ⟨j, hj, hb⟩ => by
          have h1 : validB (P.Nm j) (P.Nd j) (P.Ev j) (P.Vol j) (P.Tot j) = true := hv j hj
          have hb' : (!_) = true := hb
          rw [h1] at hb'; cases hb'⟩
        have ST := Lib.hid fun w hP => txt_full A n c P w (by omega) hn hP hv
        clear h2 HSZ hv hn hn2 hE hP g1 g2
        go_enter Tryz.func3, Tryz.ntmps3
        go_wp2_with (first
          | (go_at_call 14
             with_reducible refine (SQ.out _ _ _ _ _ _ _ HI8.out HJ8.out).mono ?_
             rintro e w9 ⟨rfl, hb9⟩
             have H9 := Lib.hid (below_step H8.out hb9)
             have y0 := (B8.out.call hb9).cell 0
             have y1 := (B8.out.call hb9).cell 1
             have z0 := (C8.out.call hb9).cell 0
             have z1 := (C8.out.call hb9).cell 1
             have ly := (B8.out.call hb9).lt
             have lz := (C8.out.call hb9).lt
             simp only [List.getElem?_toArray, List.getElem?_cons_zero, List.getElem?_cons_succ, Array.set!_eq_setIfInBounds, List.setIfInBounds_toArray, List.set_cons_zero, List.set_cons_succ] at y0 y1 z0 z1
             clear hb9)
          | (go_at_call 13
             with_reducible refine (SF.out _).mono ?_
             rintro e w7 ⟨L', k', er', A7, c7, hk0', hq, rfl, hin, hb7⟩
             obtain ⟨rfl, rfl, rfl⟩ := HUN.out _ _ _ _ _ _ HQ6.out hq
             have H7 := below_step H6.out hb7
             have BL := ((Below.refl w7.heap.size w7).alloc (Nat.le_refl _) (.cells #[.int .i64 (k : Int), .int .i64 1] 33))
             have H8 := Lib.hid (below_step H7 BL)
             have HI8 := Lib.hid ((HI6.out.below (Nat.le_refl _) hb7).below (Nat.le_refl _) BL)
             have HJ8 := Lib.hid (hin.below (Nat.le_refl _) BL)
             have B8 := Lib.hid ((B6.out.call hb7).call BL)
             have C8 := Lib.hid (Blk.new w7 33 #[.int .i64 (k : Int), .int .i64 1])
             have hc8 := C8.out
             have n7 := w7.heap.size
             have tk1 : decide ((0 : Int) < (k : Int)) = true := decide_eq_true (by omega)
             have tk2 : decide (0 < k) = true := decide_eq_true (by omega)
             have m0 := (Blk.new w7 33 #[.int .i64 0, .int .i64 0]).cell 0
             have m1 := (Blk.new w7 33 #[.int .i64 0, .int .i64 0]).cell 1
             have mf0 := (Blk.new w7 33 #[.int .i64 0, .int .i64 0]).frozen 0
             have mf1 := (Blk.new w7 33 #[.int .i64 0, .int .i64 0]).frozen 1
             simp only [List.getElem?_toArray, List.getElem?_cons_zero, List.getElem?_cons_succ] at m0 m1
             clear hb7 hin hq BL H7 hc8 n7)
          | (go_at_call 12
             with_reducible refine (SP.out _ (HE.out.below H5.out)).mono ?_
             rintro e w6 ⟨L, k, er, A6, c6, hk0, hq, rfl, hin, hb6⟩
             have BW := (Below.refl w6.heap.size w6).alloc (Nat.le_refl _) (.cells #[.int .i64 (k : Int), .int .i64 1] 33)
             have HQ6 := Lib.hid hq
             have H6 := Lib.hid ((below_step H5.out hb6).alloc (below_step H5.out hb6).size (.cells #[.int .i64 (k : Int), .int .i64 1] 33))
             have HI6 := Lib.hid (hin.below (Nat.le_refl _) BW)
             have B6 := Lib.hid (Blk.new w6 33 #[.int .i64 (k : Int), .int .i64 1])
             clear hb6 hin hq BW)
          | (go_at_call 8
             with_reducible refine (ST.out _ (HPS.out.below (Nat.le_refl _) H2.out)).mono ?_
             rintro e w3 ⟨rfl, hb3⟩
             have H3 := Lib.hid (below_step H2.out hb3)
             clear hb3)
          | (go_at_call 6
             with_reducible refine (SI.out _ (HPS.out.below (Nat.le_refl _) H3.out)).mono ?_
             rintro e w4 ⟨rfl, hb4⟩
             have H5 := Lib.hid (below_step H3.out hb4)
             clear hb4)
          | (go_at_call 5
             with_reducible refine (SA.out _ HE.out).mono ?_
             rintro e w1 ⟨rfl, hb1⟩
             have H1 := Lib.hid hb1
             clear hb1)
          | (go_at_call 6
             with_reducible refine (SL.out _ (HP.out.below (Nat.le_refl _) H1.out)).mono ?_
             rintro e w2 ⟨rfl, hb2⟩
             have H2 := Lib.hid (below_step H1.out hb2)
             clear hb2))
        go_ret
        exact ⟨by first | rfl | (simp), H9.out⟩
      · have hbad : ∃ k, k < n ∧ ¬ okP (P.at k) := by
          obtain ⟨k, hk⟩ := Classical.not_forall.1 hv
          obtain ⟨h1, h2⟩ := Classical.not_imp.1 hk
          exact ⟨k, h1, h2⟩
        have ST := Lib.hid fun w hP => txt_arg A n c P w (by omega) hP hbad
        have SI := Lib.hid fun w hP => has_rinv A n c P w (by omega) hP true ⟨fun _ => by
          obtain ⟨j, hj, hb⟩ := hbad
          refine ⟨j, hj, ?_⟩
          have h1 : validB (P.Nm j) (P.Nd j) (P.Ev j) (P.Vol j) (P.Tot j) = false := by simpa [okP, Pms.at] using hb
          show (!_) = true
          rw [h1]; rfl, fun _ => rfl⟩
        clear h2 HSZ hv hn hn2 hE hP g1 g2 hbad
        go_enter Tryz.func3, Tryz.ntmps3
        go_wp2_with (first
          | (go_at_call 14
             with_reducible refine (SQ.out _ _ _ _ _ _ _ HI8.out HJ8.out).mono ?_
             rintro e w9 ⟨rfl, hb9⟩
             have H9 := Lib.hid (below_step H8.out hb9)
             have y0 := (B8.out.call hb9).cell 0
             have y1 := (B8.out.call hb9).cell 1
             have z0 := (C8.out.call hb9).cell 0
             have z1 := (C8.out.call hb9).cell 1
             have ly := (B8.out.call hb9).lt
             have lz := (C8.out.call hb9).lt
             simp only [List.getElem?_toArray, List.getElem?_cons_zero, List.getElem?_cons_succ, Array.set!_eq_setIfInBounds, List.setIfInBounds_toArray, List.set_cons_zero, List.set_cons_succ] at y0 y1 z0 z1
             clear hb9)
          | (go_at_call 13
             with_reducible refine (SF.out _).mono ?_
             rintro e w7 ⟨L', k', er', A7, c7, hk0', hq, rfl, hin, hb7⟩
             obtain ⟨rfl, rfl, rfl⟩ := HUN.out _ _ _ _ _ _ HQ6.out hq
             have H7 := below_step H6.out hb7
             have BL := ((Below.refl w7.heap.size w7).alloc (Nat.le_refl _) (.cells #[.int .i64 (k : Int), .int .i64 1] 33))
             have H8 := Lib.hid (below_step H7 BL)
             have HI8 := Lib.hid ((HI6.out.below (Nat.le_refl _) hb7).below (Nat.le_refl _) BL)
             have HJ8 := Lib.hid (hin.below (Nat.le_refl _) BL)
             have B8 := Lib.hid ((B6.out.call hb7).call BL)
             have C8 := Lib.hid (Blk.new w7 33 #[.int .i64 (k : Int), .int .i64 1])
             have hc8 := C8.out
             have n7 := w7.heap.size
             have tk1 : decide ((0 : Int) < (k : Int)) = true := decide_eq_true (by omega)
             have tk2 : decide (0 < k) = true := decide_eq_true (by omega)
             have m0 := (Blk.new w7 33 #[.int .i64 0, .int .i64 0]).cell 0
             have m1 := (Blk.new w7 33 #[.int .i64 0, .int .i64 0]).cell 1
             have mf0 := (Blk.new w7 33 #[.int .i64 0, .int .i64 0]).frozen 0
             have mf1 := (Blk.new w7 33 #[.int .i64 0, .int .i64 0]).frozen 1
             simp only [List.getElem?_toArray, List.getElem?_cons_zero, List.getElem?_cons_succ] at m0 m1
             clear hb7 hin hq BL H7 hc8 n7)
          | (go_at_call 12
             with_reducible refine (SP.out _ (HE.out.below H5.out)).mono ?_
             rintro e w6 ⟨L, k, er, A6, c6, hk0, hq, rfl, hin, hb6⟩
             have BW := (Below.refl w6.heap.size w6).alloc (Nat.le_refl _) (.cells #[.int .i64 (k : Int), .int .i64 1] 33)
             have HQ6 := Lib.hid hq
             have H6 := Lib.hid ((below_step H5.out hb6).alloc (below_step H5.out hb6).size (.cells #[.int .i64 (k : Int), .int .i64 1] 33))
             have HI6 := Lib.hid (hin.below (Nat.le_refl _) BW)
             have B6 := Lib.hid (Blk.new w6 33 #[.int .i64 (k : Int), .int .i64 1])
             clear hb6 hin hq BW)
          | (go_at_call 8
             with_reducible refine (ST.out _ (HPS.out.below (Nat.le_refl _) H2.out)).mono ?_
             rintro e w3 ⟨rfl, hb3⟩
             have H3 := Lib.hid (below_step H2.out hb3)
             clear hb3)
          | (go_at_call 6
             with_reducible refine (SI.out _ (HPS.out.below (Nat.le_refl _) H3.out)).mono ?_
             rintro e w4 ⟨rfl, hb4⟩
             have H5 := Lib.hid (below_step H3.out hb4)
             clear hb4)
          | (go_at_call 5
             with_reducible refine (SA.out _ HE.out).mono ?_
             rintro e w1 ⟨rfl, hb1⟩
             have H1 := Lib.hid hb1
             clear hb1)
          | (go_at_call 6
             with_reducible refine (SL.out _ (HP.out.below (Nat.le_refl _) H1.out)).mono ?_
             rintro e w2 ⟨rfl, hb2⟩
             have H2 := Lib.hid (below_step H1.out hb2)
             clear hb2))
        go_ret
        exact ⟨by first | rfl | (simp), H9.out⟩
  have u1 : decide ((2000 : Int) < (s.size : Int)) = true := decide_eq_true (by omega)
  have u1' : decide (2000 < s.size) = true := decide_eq_true g1
  by_cases g2 : s.size ≤ 262144
  · have u2 : decide ((s.size : Int) ≤ 262144) = true := decide_eq_true (by omega)
    have u2' : decide (s.size ≤ 262144) = true := decide_eq_true g2
    clear h2 HSZ g1 g2 hn hn2 hE hP
    go_enter Tryz.func3, Tryz.ntmps3
    go_wp2_with (first
      | (go_at_call 5
         with_reducible refine (SA.out _ HE.out).mono ?_
         rintro e w1 ⟨rfl, hb1⟩
         have H1 := Lib.hid hb1
         clear hb1)
      | (go_at_call 6
         with_reducible refine (SL.out _ (HP.out.below (Nat.le_refl _) H1.out)).mono ?_
         rintro e w2 ⟨rfl, hb2⟩
         have H2 := Lib.hid (below_step H1.out hb2)
         clear hb2))
    go_ret
    exact ⟨by first | rfl | (simp), H2.out⟩
  have u2 : decide ((s.size : Int) ≤ 262144) = false := decide_eq_false (by omega)
  have u2' : decide (s.size ≤ 262144) = false := decide_eq_false g2
  by_cases g3 : 262154 < s.size
  · have u3 : decide ((262154 : Int) < (s.size : Int)) = true := decide_eq_true (by omega)
    have u3' : decide (262154 < s.size) = true := decide_eq_true g3
    clear h2 HSZ g1 g2 g3 hn hn2 hE hP
    go_enter Tryz.func3, Tryz.ntmps3
    go_wp2_with (first
      | (go_at_call 5
         with_reducible refine (SA.out _ HE.out).mono ?_
         rintro e w1 ⟨rfl, hb1⟩
         have H1 := Lib.hid hb1
         clear hb1)
      | (go_at_call 6
         with_reducible refine (SL.out _ (HP.out.below (Nat.le_refl _) H1.out)).mono ?_
         rintro e w2 ⟨rfl, hb2⟩
         have H2 := Lib.hid (below_step H1.out hb2)
         clear hb2))
    go_ret
    exact ⟨by first | rfl | (simp), H2.out⟩
  have u3 : decide ((262154 : Int) < (s.size : Int)) = false := decide_eq_false (by omega)
  have u3' : decide (262154 < s.size) = false := decide_eq_false g3
  have SP := Lib.hid fun w hE => tp_k0l s (by omega) w hE
  have SF := Lib.hid fun w => rp_k0l s (by omega) w
  have HUN := Lib.hid fun (L L' : List Pmr) (er er' : Int) (h : QK0 s L er) (h' : QK0 s L' er') => h.uniq h'
  by_cases hv : ∀ k, k < n → okP (P.at k)
  · have SI := Lib.hid fun w hP => has_rinv A n c P w (by omega) hP false ⟨fun h => (by cases h), fun ⟨j, hj, hb⟩ => by
      have h1 : validB (P.Nm j) (P.Nd j) (P.Ev j) (P.Vol j) (P.Tot j) = true := hv j hj
      have hb' : (!_) = true := hb
      rw [h1] at hb'; cases hb'⟩
    have ST := Lib.hid fun w hP => txt_full A n c P w (by omega) hn hP hv
    clear h2 HSZ hv hn hn2 hE hP g1 g2 g3
    go_enter Tryz.func3, Tryz.ntmps3
    go_wp2_with (first
      | (go_at_call 14
         with_reducible refine (SQ.out _ _ _ _ _ _ _ HI8.out HJ8.out).mono ?_
         rintro e w9 ⟨rfl, hb9⟩
         have H9 := Lib.hid (below_step H8.out hb9)
         have y0 := (B8.out.call hb9).cell 0
         have y1 := (B8.out.call hb9).cell 1
         have z0 := (C8.out.call hb9).cell 0
         have z1 := (C8.out.call hb9).cell 1
         have ly := (B8.out.call hb9).lt
         have lz := (C8.out.call hb9).lt
         simp only [List.getElem?_toArray, List.getElem?_cons_zero, List.getElem?_cons_succ, Array.set!_eq_setIfInBounds, List.setIfInBounds_toArray, List.set_cons_zero, List.set_cons_succ] at y0 y1 z0 z1
         clear hb9)
      | (go_at_call 13
         with_reducible refine (SF.out _).mono ?_
         rintro e w7 ⟨L', er', A7, c7, hq, rfl, hin, hb7⟩
         obtain ⟨rfl, rfl⟩ := HUN.out _ _ _ _ HQ6.out hq
         have H7 := below_step H6.out hb7
         have BL := ((Below.refl w7.heap.size w7).alloc (Nat.le_refl _) (.cells #[.int .i64 0, .int .i64 0] 33))
         have H8 := Lib.hid (below_step H7 BL)
         have HI8 := Lib.hid ((HI6.out.below (Nat.le_refl _) hb7).below (Nat.le_refl _) BL)
         have HJ8 := Lib.hid (hin.below (Nat.le_refl _) BL)
         have B8 := Lib.hid ((B6.out.call hb7).call BL)
         have C8 := Lib.hid (Blk.new w7 33 #[.int .i64 0, .int .i64 0])
         have hc8 := C8.out
         have n7 := w7.heap.size
         clear hb7 hin hq BL H7 hc8 n7)
      | (go_at_call 12
         with_reducible refine (SP.out _ (HE.out.below H5.out)).mono ?_
         rintro e w6 ⟨L, er, A6, c6, hq, rfl, hin, hb6⟩
         have BW := (Below.refl w6.heap.size w6).alloc (Nat.le_refl _) (.cells #[.int .i64 0, .int .i64 0] 33)
         have HQ6 := Lib.hid hq
         have H6 := Lib.hid ((below_step H5.out hb6).alloc (below_step H5.out hb6).size (.cells #[.int .i64 0, .int .i64 0] 33))
         have HI6 := Lib.hid (hin.below (Nat.le_refl _) BW)
         have B6 := Lib.hid (Blk.new w6 33 #[.int .i64 0, .int .i64 0])
         clear hb6 hin hq BW)
      | (go_at_call 8
         with_reducible refine (ST.out _ (HPS.out.below (Nat.le_refl _) H2.out)).mono ?_
         rintro e w3 ⟨rfl, hb3⟩
         have H3 := Lib.hid (below_step H2.out hb3)
         clear hb3)
      | (go_at_call 6
         with_reducible refine (SI.out _ (HPS.out.below (Nat.le_refl _) H3.out)).mono ?_
         rintro e w4 ⟨rfl, hb4⟩
         have H5 := Lib.hid (below_step H3.out hb4)
         clear hb4)
      | (go_at_call 5
         with_reducible refine (SA.out _ HE.out).mono ?_
         rintro e w1 ⟨rfl, hb1⟩
         have H1 := Lib.hid hb1
         clear hb1)
      | (go_at_call 6
         with_reducible refine (SL.out _ (HP.out.below (Nat.le_refl _) H1.out)).mono ?_
         rintro e w2 ⟨rfl, hb2⟩
         have H2 := Lib.hid (below_step H1.out hb2)
         clear hb2))
    go_ret
    exact ⟨by first | rfl | (simp), H9.out⟩
  · have hbad : ∃ k, k < n ∧ ¬ okP (P.at k) := by
      obtain ⟨k, hk⟩ := Classical.not_forall.1 hv
      obtain ⟨h1, h2⟩ := Classical.not_imp.1 hk
      exact ⟨k, h1, h2⟩
    have ST := Lib.hid fun w hP => txt_arg A n c P w (by omega) hP hbad
    have SI := Lib.hid fun w hP => has_rinv A n c P w (by omega) hP true ⟨fun _ => by
      obtain ⟨j, hj, hb⟩ := hbad
      refine ⟨j, hj, ?_⟩
      have h1 : validB (P.Nm j) (P.Nd j) (P.Ev j) (P.Vol j) (P.Tot j) = false := by simpa [okP, Pms.at] using hb
      show (!_) = true
      rw [h1]; rfl, fun _ => rfl⟩
    clear h2 HSZ hv hn hn2 hE hP g1 g2 g3 hbad
    go_enter Tryz.func3, Tryz.ntmps3
    go_wp2_with (first
      | (go_at_call 14
         with_reducible refine (SQ.out _ _ _ _ _ _ _ HI8.out HJ8.out).mono ?_
         rintro e w9 ⟨rfl, hb9⟩
         have H9 := Lib.hid (below_step H8.out hb9)
         have y0 := (B8.out.call hb9).cell 0
         have y1 := (B8.out.call hb9).cell 1
         have z0 := (C8.out.call hb9).cell 0
         have z1 := (C8.out.call hb9).cell 1
         have ly := (B8.out.call hb9).lt
         have lz := (C8.out.call hb9).lt
         simp only [List.getElem?_toArray, List.getElem?_cons_zero, List.getElem?_cons_succ, Array.set!_eq_setIfInBounds, List.setIfInBounds_toArray, List.set_cons_zero, List.set_cons_succ] at y0 y1 z0 z1
         clear hb9)
      | (go_at_call 13
         with_reducible refine (SF.out _).mono ?_
         rintro e w7 ⟨L', er', A7, c7, hq, rfl, hin, hb7⟩
         obtain ⟨rfl, rfl⟩ := HUN.out _ _ _ _ HQ6.out hq
         have H7 := below_step H6.out hb7
         have BL := ((Below.refl w7.heap.size w7).alloc (Nat.le_refl _) (.cells #[.int .i64 0, .int .i64 0] 33))
         have H8 := Lib.hid (below_step H7 BL)
         have HI8 := Lib.hid ((HI6.out.below (Nat.le_refl _) hb7).below (Nat.le_refl _) BL)
         have HJ8 := Lib.hid (hin.below (Nat.le_refl _) BL)
         have B8 := Lib.hid ((B6.out.call hb7).call BL)
         have C8 := Lib.hid (Blk.new w7 33 #[.int .i64 0, .int .i64 0])
         have hc8 := C8.out
         have n7 := w7.heap.size
         clear hb7 hin hq BL H7 hc8 n7)
      | (go_at_call 12
         with_reducible refine (SP.out _ (HE.out.below H5.out)).mono ?_
         rintro e w6 ⟨L, er, A6, c6, hq, rfl, hin, hb6⟩
         have BW := (Below.refl w6.heap.size w6).alloc (Nat.le_refl _) (.cells #[.int .i64 0, .int .i64 0] 33)
         have HQ6 := Lib.hid hq
         have H6 := Lib.hid ((below_step H5.out hb6).alloc (below_step H5.out hb6).size (.cells #[.int .i64 0, .int .i64 0] 33))
         have HI6 := Lib.hid (hin.below (Nat.le_refl _) BW)
         have B6 := Lib.hid (Blk.new w6 33 #[.int .i64 0, .int .i64 0])
         clear hb6 hin hq BW)
      | (go_at_call 8
         with_reducible refine (ST.out _ (HPS.out.below (Nat.le_refl _) H2.out)).mono ?_
         rintro e w3 ⟨rfl, hb3⟩
         have H3 := Lib.hid (below_step H2.out hb3)
         clear hb3)
      | (go_at_call 6
         with_reducible refine (SI.out _ (HPS.out.below (Nat.le_refl _) H3.out)).mono ?_
         rintro e w4 ⟨rfl, hb4⟩
         have H5 := Lib.hid (below_step H3.out hb4)
         clear hb4)
      | (go_at_call 5
         with_reducible refine (SA.out _ HE.out).mono ?_
         rintro e w1 ⟨rfl, hb1⟩
         have H1 := Lib.hid hb1
         clear hb1)
      | (go_at_call 6
         with_reducible refine (SL.out _ (HP.out.below (Nat.le_refl _) H1.out)).mono ?_
         rintro e w2 ⟨rfl, hb2⟩
         have H2 := Lib.hid (below_step H1.out hb2)
         clear hb2))
    go_ret
    exact ⟨by first | rfl | (simp), H9.out⟩
theorem texts_walk (A : Option Addr) (n c : Nat) (P : Pms) (s : ByteArray) (w : World) (hP : PmIn w A n P) (hE : Env5 w) :
    Calls Tryz.prog 3 #[.slice A n c, .string s] w fun e w' => e = .returned (.bool true) ∧ Below w.heap.size w w' := by
  have SA := Lib.hid fun w (hE : Env5 w) => caw w hE.1
  by_cases h1 : n ≤ 20
  · exact pt_small A n c P s w hP hE h1
  by_cases h2 : n ≤ 1000
  · have HE := Lib.hid hE
    have t1 : decide ((20 : Int) < (n : Int)) = true := decide_eq_true (by omega)
    have t1' : decide (20 < n) = true := decide_eq_true (by omega)
    have t2 : decide ((n : Int) ≤ 1000) = true := decide_eq_true (by omega)
    have t2' : decide (n ≤ 1000) = true := decide_eq_true h2
    clear h1 h2 hE hP
    go_enter Tryz.func3, Tryz.ntmps3
    go_wp2_with (first
      | (go_at_call 5
         with_reducible refine (SA.out _ HE.out).mono ?_
         rintro e w1 ⟨rfl, hb1⟩
         have H1 := Lib.hid hb1
         clear hb1))
    go_ret
    exact ⟨by first | rfl | (simp), H1.out⟩
  by_cases h3 : n ≤ 1005
  · exact pt_big A n c P s w hP hE (by omega) h3
  have HE := Lib.hid hE
  have t1 : decide ((20 : Int) < (n : Int)) = true := decide_eq_true (by omega)
  have t1' : decide (20 < n) = true := decide_eq_true (by omega)
  have t2 : decide ((n : Int) ≤ 1000) = false := decide_eq_false (by omega)
  have t2' : decide (n ≤ 1000) = false := decide_eq_false h2
  have t3 : decide ((1005 : Int) < (n : Int)) = true := decide_eq_true (by omega)
  have t3' : decide (1005 < n) = true := decide_eq_true (by omega)
  clear h1 h2 h3 hE hP
  go_enter Tryz.func3, Tryz.ntmps3
  go_wp2_with (first
    | (go_at_call 5
       with_reducible refine (SA.out _ HE.out).mono ?_
       rintro e w1 ⟨rfl, hb1⟩
       have H1 := Lib.hid hb1
       clear hb1))
  go_ret
  exact ⟨by first | rfl | (simp), H1.out⟩
end Go.Proofs.YtigocjhmgmhocaaGreatDoor

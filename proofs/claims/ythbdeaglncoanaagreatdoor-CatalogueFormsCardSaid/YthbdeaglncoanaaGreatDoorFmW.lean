/- The law's walk. -/
import Derived.Test.YthbdeaglncoanaaGreatDoorMgFb
import Derived.Test.YthbdeaglncoanaaGreatDoorFmK
import Derived.Test.YthbdeaglncoanaaGreatDoorAwake
namespace Go.Proofs.YthbdeaglncoanaaGreatDoor
open Go.RowKit
set_option linter.unusedVariables false
set_option linter.unusedSimpArgs false

theorem fnd_one {C : Scs} {n : Nat} {nm : ByteArray} {v v' : Int} (h : FndP C n nm v) (h' : FndP C n nm v') : v = v' := by
  rcases h with ⟨k, hk, h1, h2, rfl⟩ | ⟨h1, rfl⟩
  · rcases h' with ⟨k', hk', h1', h2', rfl⟩ | ⟨h1', rfl⟩
    · rcases Nat.lt_trichotomy k k' with g | g | g
      · exact absurd h1 (h2' k g)
      · rw [g]
      · exact absurd h1' (h2 k' g)
    · exact absurd h1 (h1' k hk)
  · rcases h' with ⟨k', hk', h1', h2', rfl⟩ | ⟨h1', rfl⟩
    · exact absurd h1' (h1 k' hk')
    · rfl
theorem fnd_ex (C : Scs) (nm : ByteArray) : ∀ n, ∃ v, FndP C n nm v
  | 0 => ⟨-1, .inr ⟨fun j hj => absurd hj (Nat.not_lt_zero _), rfl⟩⟩
  | n + 1 => by
    obtain ⟨v, hv⟩ := fnd_ex C nm n
    rcases hv with ⟨k, hk, h1, h2, rfl⟩ | ⟨h1, rfl⟩
    · exact ⟨_, .inl ⟨k, by omega, h1, h2, rfl⟩⟩
    · by_cases h : C.Nm n = nm
      · exact ⟨_, .inl ⟨n, by omega, h, h1, rfl⟩⟩
      · refine ⟨-1, .inr ⟨fun j hj => ?_, rfl⟩⟩
        rcases Nat.lt_or_ge j n with g | g
        · exact h1 j g
        · have : j = n := by omega
          rw [this]; exact h
set_option maxRecDepth 100000 in
set_option maxHeartbeats 16000000 in
theorem l_forms (A : Option Addr) (n c : Nat) (C : Scs) (nm : ByteArray) (w : World) (hE : EnvM w) (hn : ∀ k, k < n → (C.Nm k).size ≤ maxLen) (hm : nm.size ≤ maxLen) (hC : ScIn w A n C) :
    Calls Tryz.prog 3 #[.slice A n c, .string nm] w fun e w' => e = .returned (.bool true) ∧ Below w.heap.size w w' := by
  have SA := Lib.hid (cawake w)
  have SM : Hid (∀ w', Below w.heap.size w w' → Calls Tryz.prog 5 #[.slice A n c] w' fun e w'' => e = .returned (.bool (boolOf (mnP C n))) ∧ Below w'.heap.size w' w'') := fun w' hb => l_many A n c C w' hC.1 hn (hC.below (Nat.le_refl _) hb)
  have hm0 : ((nm.size : Nat) : Int) ≤ 9223372036854775807 := by unfold maxLen at hm; omega
  by_cases hmn : mnP C n
  · have SM : Hid (∀ w', Below w.heap.size w w' → Calls Tryz.prog 5 #[.slice A n c] w' fun e w'' => e = .returned (.bool true) ∧ Below w'.heap.size w' w'') := fun w' hb => by
      have := SM.out w' hb
      rw [boolOf_true hmn] at this
      exact this
    clear hE hn hm hC hmn
    go_enter Tryz.func3, Tryz.ntmps3
    go_wp2_with (first
      | (go_at_call 4
         with_reducible refine SA.out.mono ?_
         rintro e w1 ⟨rfl, hb1⟩
         have HB1 := Lib.hid hb1
         clear hb1)
      | (go_at_call 5
         with_reducible refine (SM.out _ HB1.out).mono ?_
         rintro e w2 ⟨rfl, hb2⟩
         have HB2 := Lib.hid (below_step HB1.out hb2)
         clear hb2))
    go_ret
    exact ⟨rfl, HB2.out⟩
  have SM : Hid (∀ w', Below w.heap.size w w' → Calls Tryz.prog 5 #[.slice A n c] w' fun e w'' => e = .returned (.bool false) ∧ Below w'.heap.size w' w'') := fun w' hb => by
    have := SM.out w' hb
    rw [boolOf_false hmn] at this
    exact this
  by_cases h100 : 100 < nm.size
  · have t1 : decide ((100 : Int) < (nm.size : Int)) = true := decide_eq_true (by omega)
    have t1' : decide (100 < nm.size) = true := decide_eq_true h100
    clear hE hn hm hC hmn h100
    go_enter Tryz.func3, Tryz.ntmps3
    go_wp2_with (first
      | (go_at_call 4
         with_reducible refine SA.out.mono ?_
         rintro e w1 ⟨rfl, hb1⟩
         have HB1 := Lib.hid hb1
         clear hb1)
      | (go_at_call 5
         with_reducible refine (SM.out _ HB1.out).mono ?_
         rintro e w2 ⟨rfl, hb2⟩
         have HB2 := Lib.hid (below_step HB1.out hb2)
         clear hb2))
    go_ret
    exact ⟨rfl, HB2.out⟩
  have t1 : decide ((100 : Int) < (nm.size : Int)) = false := decide_eq_false (by omega)
  have t1' : decide (100 < nm.size) = false := decide_eq_false h100
  have h80 : n ≤ 80 := by
    rcases Nat.lt_or_ge 80 n with g | g
    · exact absurd (.inr (.inl g)) hmn
    · exact g
  have R6 : Hid (∀ w', Below w.heap.size w w' → Calls Tryz.prog 6 #[.slice A n c] w' fun e w'' => e = .returned (.bool (boolOf (catP C n))) ∧ Below w'.heap.size w' w'') := fun w' hb => r_valid A n c C (by omega) hn w' (hC.below (Nat.le_refl _) hb)
  have R9 : Hid (∀ w', Below w.heap.size w w' → Calls Tryz.prog 9 #[.slice A n c] w' fun e w'' => e = .returned (.bool (boolOf (catP C n))) ∧ Below w'.heap.size w' w'') := fun w' hb => tcat A n c C (by omega) hn w' (hC.below (Nat.le_refl _) hb)
  have R7 : Hid (∀ w', Below w.heap.size w w' → Calls Tryz.prog 7 #[.slice A n c, .string nm] w' fun e w'' => CfP C n nm e ∧ Below w'.heap.size w' w'') := fun w' hb => c_find A n c C nm (by omega) hn w' (hC.below (Nat.le_refl _) hb)
  have R8 : Hid (∀ w', Below w.heap.size w w' → Calls Tryz.prog 8 #[.slice A n c] w' fun e w'' => ((catP C n ∧ e = .returned (.tuple #[.string ⟨(catT C n).toArray⟩, .int .i64 0])) ∨ (¬ catP C n ∧ e = .returned (.tuple #[.string ⟨#[]⟩, .int .i64 1]))) ∧ Below w'.heap.size w' w'') := fun w' hb => c_Text A n c C (by omega) hn w' (hE.below hb).1 (hC.below (Nat.le_refl _) hb)
  by_cases hcat : catP C n
  case neg =>
    have R6 : Hid (∀ w', Below w.heap.size w w' → Calls Tryz.prog 6 #[.slice A n c] w' fun e w'' => e = .returned (.bool false) ∧ Below w'.heap.size w' w'') := fun w' hb => by
      have := R6.out w' hb
      rw [boolOf_false hcat] at this
      exact this
    have R9 : Hid (∀ w', Below w.heap.size w w' → Calls Tryz.prog 9 #[.slice A n c] w' fun e w'' => e = .returned (.bool false) ∧ Below w'.heap.size w' w'') := fun w' hb => by
      have := R9.out w' hb
      rw [boolOf_false hcat] at this
      exact this
    have R7 : Hid (∀ w', Below w.heap.size w w' → Calls Tryz.prog 7 #[.slice A n c, .string nm] w' fun e w'' => e = .returned (.tuple #[.int .i64 0, .int .i64 1]) ∧ Below w'.heap.size w' w'') := fun w' hb => (R7.out w' hb).mono fun e w'' ⟨h1, h2⟩ => ⟨h1.elim (fun q => q.2) (fun q => absurd q.1 hcat), h2⟩
    have R8 : Hid (∀ w', Below w.heap.size w w' → Calls Tryz.prog 8 #[.slice A n c] w' fun e w'' => e = .returned (.tuple #[.string ⟨#[]⟩, .int .i64 1]) ∧ Below w'.heap.size w' w'') := fun w' hb => (R8.out w' hb).mono fun e w'' ⟨h1, h2⟩ => ⟨h1.elim (fun q => absurd q.1 hcat) (fun q => q.2), h2⟩
    clear hE hn hm hC hmn h100 h80 hcat
    go_enter Tryz.func3, Tryz.ntmps3
    go_wp2_with (first
      | (go_at_call 4
         with_reducible refine SA.out.mono ?_
         rintro e w1 ⟨rfl, hb1⟩
         have HB := Lib.hid hb1
         clear hb1)
      | (go_at_call 5
         with_reducible refine (SM.out _ HB.out).mono ?_
         rintro e w2 ⟨rfl, hb2⟩
         have HB := Lib.hid (below_step HB.out hb2)
         clear hb2)
      | (go_at_call 6
         with_reducible refine (R6.out _ HB.out).mono ?_
         rintro e w2 ⟨rfl, hb2⟩
         have HB := Lib.hid (below_step HB.out hb2)
         clear hb2)
      | (go_at_call 7
         with_reducible refine (R7.out _ HB.out).mono ?_
         rintro e w2 ⟨rfl, hb2⟩
         have HB := Lib.hid (below_step HB.out hb2)
         clear hb2)
      | (go_at_call 8
         with_reducible refine (R8.out _ HB.out).mono ?_
         rintro e w2 ⟨rfl, hb2⟩
         have HB := Lib.hid (below_step HB.out hb2)
         clear hb2)
      | (go_at_call 9
         with_reducible refine (R9.out _ HB.out).mono ?_
         rintro e w2 ⟨rfl, hb2⟩
         have HB := Lib.hid (below_step HB.out hb2)
         clear hb2))
    go_ret
    exact ⟨rfl, HB.out⟩
  have h8 : n ≤ 8 := by
    rcases Nat.lt_or_ge 8 n with g | g
    · exact absurd (.inl ⟨g, hcat.1⟩) hmn
    · exact g
  have HP : Hid (∀ k, k < n → secP C k) := fun k hk => (hcat.2 k hk).1
  obtain ⟨v, hv⟩ := fnd_ex C nm n
  obtain ⟨ts, hts⟩ : ∃ ts : ByteArray, ts = ⟨(catT C n).toArray⟩ := ⟨_, rfl⟩
  have R6 : Hid (∀ w', Below w.heap.size w w' → Calls Tryz.prog 6 #[.slice A n c] w' fun e w'' => e = .returned (.bool true) ∧ Below w'.heap.size w' w'') := fun w' hb => by
    have := R6.out w' hb
    rw [boolOf_true hcat] at this
    exact this
  have R9 : Hid (∀ w', Below w.heap.size w w' → Calls Tryz.prog 9 #[.slice A n c] w' fun e w'' => e = .returned (.bool true) ∧ Below w'.heap.size w' w'') := fun w' hb => by
    have := R9.out w' hb
    rw [boolOf_true hcat] at this
    exact this
  have R8 : Hid (∀ w', Below w.heap.size w w' → Calls Tryz.prog 8 #[.slice A n c] w' fun e w'' => e = .returned (.tuple #[.string ts, .int .i64 0]) ∧ Below w'.heap.size w' w'') := fun w' hb => by
    rw [hts]
    exact (R8.out w' hb).mono fun e w'' ⟨h1, h2⟩ => ⟨h1.elim (fun q => q.2) (fun q => absurd hcat q.1), h2⟩
  have R10 : Hid (∀ w', Below w.heap.size w w' → Calls Tryz.prog 10 #[.slice A n c, .string nm] w' fun e w'' => e = .returned (.int .i64 v) ∧ Below w'.heap.size w' w'') := fun w' hb => (r_find A n c C nm (by omega) w' (hC.below (Nat.le_refl _) hb)).mono fun e w'' ⟨⟨v', he, hv'⟩, h2⟩ => ⟨by rw [he, fnd_one hv hv'], h2⟩
  have R11 : Hid (∀ w', Below w.heap.size w w' → Calls Tryz.prog 11 #[.string ts] w' (PcP w' C n)) := fun w' hb => c_Parse C n (by omega) ts (by rw [hts]) hcat w' (hE.below hb)
  have R12 : Hid (∀ w', Below w.heap.size w w' → Calls Tryz.prog 12 #[.slice A n c] w' fun e w'' => e = .returned (.string ts) ∧ Below w'.heap.size w' w'') := fun w' hb => by
    rw [hts]
    exact r_text A n c C hcat w' (hC.below (Nat.le_refl _) hb)
  have R13 : Hid (∀ A' c' M w', Below w.heap.size w w' → ScIn w' A' n (scL C M) → Calls Tryz.prog 13 #[.slice A' n c', .slice A n c, .func (.func 14) #[] #[]] w' fun e w'' => e = .returned (.bool true) ∧ Below w'.heap.size w' w'') := fun A' c' M w' hb hin => s_equal A' A n c' c C (scL C M) rfl rfl rfl rfl rfl rfl rfl rfl rfl (by omega) HP.out w' hin (hC.below (Nat.le_refl _) hb)
  have tt : (ts.toList == ts.toList) = true := by simp
  have tv : (v == v) = true := by simp
  have tv2 : (v != v) = false := by simp
  by_cases hv0 : 0 ≤ v
  case pos =>
    have R7 : Hid (∀ w', Below w.heap.size w w' → Calls Tryz.prog 7 #[.slice A n c, .string nm] w' fun e w'' => e = .returned (.tuple #[.int .i64 v, .int .i64 0]) ∧ Below w'.heap.size w' w'') := fun w' hb => (R7.out w' hb).mono fun e w'' ⟨h1, h2⟩ => ⟨by
      rcases h1 with q | ⟨_, v', hv', q⟩
      · exact absurd hcat q.1
      · rw [fnd_one hv' hv] at q
        rcases q with q | q
        · exact q.2
        · omega, h2⟩
    have t0 : decide (v < 0) = false := decide_eq_false (by omega)
    clear hE hn hm hC hmn h100 h80 hcat hv hts h8 hv0
    go_enter Tryz.func3, Tryz.ntmps3
    go_upto_region 19 with (first
      | (go_at_call 4
         with_reducible refine SA.out.mono ?_
         rintro e w1 ⟨rfl, hb1⟩
         have HB := Lib.hid hb1
         clear hb1)
      | (go_at_call 5
         with_reducible refine (SM.out _ HB.out).mono ?_
         rintro e w2 ⟨rfl, hb2⟩
         have HB := Lib.hid (below_step HB.out hb2)
         clear hb2)
      | (go_at_call 6
         with_reducible refine (R6.out _ HB.out).mono ?_
         rintro e w2 ⟨rfl, hb2⟩
         have HB := Lib.hid (below_step HB.out hb2)
         clear hb2)
      | (go_at_call 7
         with_reducible refine (R7.out _ HB.out).mono ?_
         rintro e w2 ⟨rfl, hb2⟩
         have HB := Lib.hid (below_step HB.out hb2)
         clear hb2)
      | (go_at_call 8
         with_reducible refine (R8.out _ HB.out).mono ?_
         rintro e w2 ⟨rfl, hb2⟩
         have HB := Lib.hid (below_step HB.out hb2)
         clear hb2)
      | (go_at_call 9
         with_reducible refine (R9.out _ HB.out).mono ?_
         rintro e w2 ⟨rfl, hb2⟩
         have HB := Lib.hid (below_step HB.out hb2)
         clear hb2)
      | (go_at_call 10
         with_reducible refine (R10.out _ HB.out).mono ?_
         rintro e w2 ⟨rfl, hb2⟩
         have HB := Lib.hid (below_step HB.out hb2)
         clear hb2)
      | (go_at_call 11
         with_reducible refine (R11.out _ HB.out).mono ?_
         rintro e w3 ⟨A', c', M, rfl, hM, hin, hb3⟩
         have HB := Lib.hid (below_step HB.out hb3)
         have HIN := Lib.hid hin
         clear hb3 hin hM))
    have hal : Below w3.heap.size w3 (w3.alloc (Obj.cells #[.int .i64 0, .int .i64 0] 32)) := (Below.refl _ _).alloc (Nat.le_refl _) _
    have HX : Hid (Blk (w3.alloc (Obj.cells #[.int .i64 0, .int .i64 0] 32)) w3.heap.size 32 #[.int .i64 0, .int .i64 0]) := Blk.new _ _ _
    have HB4 := Lib.hid (below_step HB.out hal)
    have HIN4 := Lib.hid (HIN.out.below (Nat.le_refl _) hal)
    clear hal
    generalize w3.alloc (Obj.cells #[.int .i64 0, .int .i64 0] 32) = w4 at HX HB4 HIN4 ⊢
    generalize w3.heap.size = G at HX ⊢
    obtain ⟨y0, y1⟩ := blk2 HX.out
    clear SA SM R6 R7 R8 R9 R10 R11
    go_wp2_with (first
      | (go_at_call 12
         with_reducible refine (R12.out _ HB4.out).mono ?_
         rintro e w5 ⟨rfl, hb5⟩
         have HB5 := Lib.hid (below_step HB4.out hb5)
         have HIN5 := Lib.hid (HIN4.out.below (Nat.le_refl _) hb5)
         have HX5 := Lib.hid (HX.out.call hb5)
         clear y0 y1 hb5
         obtain ⟨y0, y1⟩ := blk2 HX5.out)
      | (go_at_call 13
         with_reducible refine (R13.out A' c' M _ HB5.out HIN5.out).mono ?_
         rintro e w6 ⟨rfl, hb6⟩
         have HB6 := Lib.hid (below_step HB5.out hb6)
         clear hb6))
    go_ret
    exact ⟨rfl, HB6.out⟩
  case neg =>
    have R7 : Hid (∀ w', Below w.heap.size w w' → Calls Tryz.prog 7 #[.slice A n c, .string nm] w' fun e w'' => e = .returned (.tuple #[.int .i64 0, .int .i64 9]) ∧ Below w'.heap.size w' w'') := fun w' hb => (R7.out w' hb).mono fun e w'' ⟨h1, h2⟩ => ⟨by
      rcases h1 with q | ⟨_, v', hv', q⟩
      · exact absurd hcat q.1
      · rw [fnd_one hv' hv] at q
        rcases q with q | q
        · omega
        · exact q.2, h2⟩
    have t0 : decide (v < 0) = true := decide_eq_true (by omega)
    clear hE hn hm hC hmn h100 h80 hcat hv hts h8 hv0
    go_enter Tryz.func3, Tryz.ntmps3
    go_upto_region 19 with (first
      | (go_at_call 4
         with_reducible refine SA.out.mono ?_
         rintro e w1 ⟨rfl, hb1⟩
         have HB := Lib.hid hb1
         clear hb1)
      | (go_at_call 5
         with_reducible refine (SM.out _ HB.out).mono ?_
         rintro e w2 ⟨rfl, hb2⟩
         have HB := Lib.hid (below_step HB.out hb2)
         clear hb2)
      | (go_at_call 6
         with_reducible refine (R6.out _ HB.out).mono ?_
         rintro e w2 ⟨rfl, hb2⟩
         have HB := Lib.hid (below_step HB.out hb2)
         clear hb2)
      | (go_at_call 7
         with_reducible refine (R7.out _ HB.out).mono ?_
         rintro e w2 ⟨rfl, hb2⟩
         have HB := Lib.hid (below_step HB.out hb2)
         clear hb2)
      | (go_at_call 8
         with_reducible refine (R8.out _ HB.out).mono ?_
         rintro e w2 ⟨rfl, hb2⟩
         have HB := Lib.hid (below_step HB.out hb2)
         clear hb2)
      | (go_at_call 9
         with_reducible refine (R9.out _ HB.out).mono ?_
         rintro e w2 ⟨rfl, hb2⟩
         have HB := Lib.hid (below_step HB.out hb2)
         clear hb2)
      | (go_at_call 10
         with_reducible refine (R10.out _ HB.out).mono ?_
         rintro e w2 ⟨rfl, hb2⟩
         have HB := Lib.hid (below_step HB.out hb2)
         clear hb2)
      | (go_at_call 11
         with_reducible refine (R11.out _ HB.out).mono ?_
         rintro e w3 ⟨A', c', M, rfl, hM, hin, hb3⟩
         have HB := Lib.hid (below_step HB.out hb3)
         have HIN := Lib.hid hin
         clear hb3 hin hM))
    have hal : Below w3.heap.size w3 (w3.alloc (Obj.cells #[.int .i64 0, .int .i64 0] 32)) := (Below.refl _ _).alloc (Nat.le_refl _) _
    have HX : Hid (Blk (w3.alloc (Obj.cells #[.int .i64 0, .int .i64 0] 32)) w3.heap.size 32 #[.int .i64 0, .int .i64 0]) := Blk.new _ _ _
    have HB4 := Lib.hid (below_step HB.out hal)
    have HIN4 := Lib.hid (HIN.out.below (Nat.le_refl _) hal)
    clear hal
    generalize w3.alloc (Obj.cells #[.int .i64 0, .int .i64 0] 32) = w4 at HX HB4 HIN4 ⊢
    generalize w3.heap.size = G at HX ⊢
    obtain ⟨y0, y1⟩ := blk2 HX.out
    clear SA SM R6 R7 R8 R9 R10 R11
    go_wp2_with (first
      | (go_at_call 12
         with_reducible refine (R12.out _ HB4.out).mono ?_
         rintro e w5 ⟨rfl, hb5⟩
         have HB5 := Lib.hid (below_step HB4.out hb5)
         have HIN5 := Lib.hid (HIN4.out.below (Nat.le_refl _) hb5)
         have HX5 := Lib.hid (HX.out.call hb5)
         clear y0 y1 hb5
         obtain ⟨y0, y1⟩ := blk2 HX5.out)
      | (go_at_call 13
         with_reducible refine (R13.out A' c' M _ HB5.out HIN5.out).mono ?_
         rintro e w6 ⟨rfl, hb6⟩
         have HB6 := Lib.hid (below_step HB5.out hb6)
         clear hb6))
    go_ret
    exact ⟨rfl, HB6.out⟩
end Go.Proofs.YthbdeaglncoanaaGreatDoor

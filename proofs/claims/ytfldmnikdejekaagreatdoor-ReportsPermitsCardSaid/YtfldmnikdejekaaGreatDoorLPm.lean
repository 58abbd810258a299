/- The walk of the law ReportsPermits. -/
import Derived.Test.YtfldmnikdejekaaGreatDoorAwA
import Derived.Test.YtfldmnikdejekaaGreatDoorTPm
import Derived.Test.YtfldmnikdejekaaGreatDoorRPm
import Derived.Test.YtfldmnikdejekaaGreatDoorHas
namespace Go.Proofs.YtfldmnikdejekaaGreatDoor
open Go.RowKit Go.Maps
set_option linter.unusedVariables false
set_option linter.unusedSimpArgs false

open Classical in
theorem RepIs.ex (P : Pms) (L : Evl) (from_ sec : Int) (n m : Nat) : ∃ R er, RepIs P L from_ sec n m R er := by
  by_cases h : m = n
  · by_cases h2 : 1000 < n
    · exact ⟨[], 4, .inr (.inl ⟨h, h2, rfl, rfl⟩)⟩
    · obtain ⟨k, hk⟩ := first_ex (fun j => decide (perr P L from_ sec j ≠ 0)) n
      by_cases hkn : k < n
      · refine ⟨[], _, .inr (.inr ⟨h, by omega, .inl ⟨k, hkn, fun j hj => ?_, by simpa using hk.2.2 hkn, rfl, rfl⟩⟩)⟩
        simpa using hk.2.1 j hj
      · exact ⟨_, _, .inr (.inr ⟨h, by omega, .inr ⟨fun j hj => by simpa using hk.2.1 j (by have := hk.1; omega), rfl, rfl⟩⟩)⟩
  · exact ⟨[], 3, .inl ⟨h, rfl, rfl⟩⟩
theorem jn_size4 (a b c d : ByteArray) : (bs (jn [a, b, c, d])).size = a.size + b.size + c.size + d.size + 3 := by
  rw [bs_size, jn_four]
  simp only [List.length_append, List.length_cons, size_data]
  omega
theorem jn_size3 (a b c : ByteArray) : (bs (jn [a, b, c])).size = a.size + b.size + c.size + 2 := by
  rw [bs_size, jn_three]
  simp only [List.length_append, List.length_cons, size_data]
  omega
theorem plin_size {P : Pms} {L : Evl} {from_ sec : Int} {k : Nat} (h1 : (P.Nm k).size ≤ 60) (h2 : (P.Nd k).size ≤ 60) (h20 : L.N k ≤ 20) {x : ByteArray} (hx : x ∈ plin P L from_ sec k) : x.size ≤ 200 := by
  unfold plin at hx
  split at hx
  · rw [List.mem_singleton.1 hx]
    unfold kline
    rw [jn_size3]
    have : wKp.size = 4 := rfl
    omega
  · obtain ⟨p, hp, rfl⟩ := List.mem_map.1 hx
    have hb := pfnd_mem P L from_ sec h20 hp
    have h3 := fnm_small hb.2.1 hb.2.2
    have h4 := word_size p.1
    unfold fline
    rw [jn_size4]
    omega
theorem pout_size {P : Pms} {L : Evl} {from_ sec : Int} : ∀ {n : Nat}, (∀ k, k < n → (P.Nm k).size ≤ 60 ∧ (P.Nd k).size ≤ 60) → (∀ k, k < n → L.N k ≤ 20) → ∀ x ∈ pout P L from_ sec n, x.size ≤ 200
  | 0, _, _, x, hx => by simp [pout] at hx
  | k + 1, h1, h2, x, hx => by
    unfold pout at hx
    rcases List.mem_append.1 hx with h | h
    · exact pout_size (fun j hj => h1 j (by omega)) (fun j hj => h2 j (by omega)) x h
    · exact plin_size (h1 k (by omega)).1 (h1 k (by omega)).2 (h2 k (by omega)) h
theorem getD_mem {R : List ByteArray} {k : Nat} (h : k < R.length) : R.getD k ByteArray.empty ∈ R := by
  rw [List.getD_eq_getElem?_getD, List.getElem?_eq_getElem h]
  exact List.getElem_mem _
theorem tsuf (s : ByteArray) (hs : s.size ≤ 200) (f : Bool) (hf : isK s = f) (w : World) : Calls Tryz.prog 38 #[.string s, .string ⟨#[32, 107, 101, 112, 116]⟩] w fun e w' => e = .returned (.bool f) ∧ Below w.heap.size w w' := by
  refine (Tryz.strings_HasSuffix s _ w (by omega)).mono ?_
  rintro e w' ⟨he, hw⟩
  refine ⟨?_, by rw [hw]; exact Below.refl _ _⟩
  rw [he, ← hf]
  unfold isK
  rfl
theorem rep_big {P : Pms} {L : Evl} {from_ sec : Int} {n m : Nat} {R : List ByteArray} (h : RepIs P L from_ sec n m R 0) : m = n ∧ n ≤ 1000 ∧ (∀ j, j < n → perr P L from_ sec j = 0) ∧ R = pout P L from_ sec n := by
  rcases h with ⟨_, _, h⟩ | ⟨_, _, _, h⟩ | ⟨h1, h2, ⟨k, _, _, h3, _, h4⟩ | ⟨h3, h4, _⟩⟩
  · omega
  · omega
  · exact absurd h4.symm h3
  · exact ⟨h1, h2, h3, h4⟩
set_option maxRecDepth 100000 in
set_option maxHeartbeats 8000000 in
theorem permits_walk (A B : Option Addr) (n c m d : Nat) (P : Pms) (L : Evl) (from_ sec : Int) (w : World) (hE : Env5 w) (hP : PmIn w A n P) (hL : ElIn w B m L) :
    Calls Tryz.prog 8 #[.slice A n c, .slice B m d, .int .i64 from_, .int .i64 sec] w fun e w' => e = .returned (.bool true) ∧ Below w.heap.size w w' := by
  have HE := Lib.hid hE
  have HP := Lib.hid hP
  have HL := Lib.hid hL
  have H0 := Lib.hid (Below.refl w.heap.size w)
  have SA := Lib.hid fun w hE => caw5 w hE
  by_cases ha : 10 < n ∧ n ≤ 1000
  · have t1 : decide ((10 : Int) < (n : Int)) = true := decide_eq_true (by omega)
    have t1' : decide (10 < n) = true := decide_eq_true ha.1
    have t2 : decide ((n : Int) ≤ (1000 : Int)) = true := decide_eq_true (by omega)
    have t2' : decide (n ≤ 1000) = true := decide_eq_true ha.2
    clear hE hP hL ha
    go_enter Tryz.func8, Tryz.ntmps8
    go_wp2_with (first
      | (go_at_call 11
         with_reducible refine (SA.out _ (HE.out.below H0.out)).mono ?_
         rintro e w1 ⟨rfl, hb1⟩
         have H1 := Lib.hid (below_step H0.out hb1)
         clear hb1))
    go_ret
    exact ⟨rfl, H1.out⟩
  by_cases hb : 1005 < n
  · have t1 : decide ((10 : Int) < (n : Int)) = true := decide_eq_true (by omega)
    have t1' : decide (10 < n) = true := decide_eq_true (by omega)
    have t2 : decide ((n : Int) ≤ (1000 : Int)) = false := decide_eq_false (by omega)
    have t2' : decide (n ≤ 1000) = false := decide_eq_false (by omega)
    have t3 : decide ((1005 : Int) < (n : Int)) = true := decide_eq_true (by omega)
    have t3' : decide (1005 < n) = true := decide_eq_true hb
    clear hE hP hL ha hb
    go_enter Tryz.func8, Tryz.ntmps8
    go_wp2_with (first
      | (go_at_call 11
         with_reducible refine (SA.out _ (HE.out.below H0.out)).mono ?_
         rintro e w1 ⟨rfl, hb1⟩
         have H1 := Lib.hid (below_step H0.out hb1)
         clear hb1))
    go_ret
    exact ⟨rfl, H1.out⟩
  obtain ⟨R0, er0, hR0⟩ := RepIs.ex P L from_ sec n m
  have HR0 := Lib.hid hR0
  have hn : n ≤ 10 ∨ (1000 < n ∧ n ≤ 1005) := by omega
  clear ha hb
  rcases hn with hn | hn
  case inr =>
    have t1 : decide ((10 : Int) < (n : Int)) = true := decide_eq_true (by omega)
    have t1' : decide (10 < n) = true := decide_eq_true (by omega)
    have t2 : decide ((n : Int) ≤ (1000 : Int)) = false := decide_eq_false (by omega)
    have t2' : decide (n ≤ 1000) = false := decide_eq_false (by omega)
    have t3 : decide ((1005 : Int) < (n : Int)) = false := decide_eq_false (by omega)
    have t3' : decide (1005 < n) = false := decide_eq_false (by omega)
    by_cases hm : 1005 < m
    · have t4 : decide ((1005 : Int) < (m : Int)) = true := decide_eq_true (by omega)
      have t4' : decide (1005 < m) = true := decide_eq_true hm
      clear hE hP hL hn hm
      go_enter Tryz.func8, Tryz.ntmps8
      go_wp2_with (first
        | (go_at_call 11
           with_reducible refine (SA.out _ (HE.out.below H0.out)).mono ?_
           rintro e w1 ⟨rfl, hb1⟩
           have H1 := Lib.hid (below_step H0.out hb1)
           clear hb1))
      go_ret
      exact ⟨rfl, H1.out⟩
    have t4 : decide ((1005 : Int) < (m : Int)) = false := decide_eq_false (by omega)
    have t4' : decide (1005 < m) = false := decide_eq_false hm
    by_cases hl1 : ∃ j, j < n ∧ (fun j => decide (60 < (P.Nm j).size ∨ 60 < (P.Nd j).size)) j = true
    · have SL1 := Lib.hid fun w hp => has_longp A n c P w (by omega) hp true ⟨fun _ => hl1, fun _ => rfl⟩
      clear hE hP hL hn hm hl1
      go_enter Tryz.func8, Tryz.ntmps8
      go_wp2_with (first
        | (go_at_call 11
           with_reducible refine (SA.out _ (HE.out.below H0.out)).mono ?_
           rintro e w1 ⟨rfl, hb1⟩
           have H1 := Lib.hid (below_step H0.out hb1)
           clear hb1)
        | (go_at_call 40
           with_reducible refine (SL1.out _ (HP.out.below (Nat.le_refl _) H1.out)).mono ?_
           rintro e w2 ⟨rfl, hb2⟩
           have H2 := Lib.hid (below_step H1.out hb2)
           clear hb2))
      go_ret
      exact ⟨rfl, H2.out⟩
    have SL1 := Lib.hid fun w hp => has_longp A n c P w (by omega) hp false ⟨fun h => (by cases h), fun h => absurd h hl1⟩
    by_cases hl2 : ∃ j, j < m ∧ (fun j => decide (20 < L.N j)) j = true
    · have SL2 := Lib.hid fun w hp => has_longe B m d L w (by omega) hp true ⟨fun _ => hl2, fun _ => rfl⟩
      clear hE hP hL hn hm hl1 hl2
      go_enter Tryz.func8, Tryz.ntmps8
      go_wp2_with (first
        | (go_at_call 11
           with_reducible refine (SA.out _ (HE.out.below H0.out)).mono ?_
           rintro e w1 ⟨rfl, hb1⟩
           have H1 := Lib.hid (below_step H0.out hb1)
           clear hb1)
        | (go_at_call 40
           with_reducible refine (SL1.out _ (HP.out.below (Nat.le_refl _) H1.out)).mono ?_
           rintro e w2 ⟨rfl, hb2⟩
           have H2 := Lib.hid (below_step H1.out hb2)
           clear hb2)
        | (go_at_call 42
           with_reducible refine (SL2.out _ (HL.out.below (Nat.le_refl _) H2.out)).mono ?_
           rintro e w3 ⟨rfl, hb3⟩
           have H3 := Lib.hid (below_step H2.out hb3)
           clear hb3))
      go_ret
      exact ⟨rfl, H3.out⟩
    have SL2 := Lib.hid fun w hp => has_longe B m d L w (by omega) hp false ⟨fun h => (by cases h), fun h => absurd h hl2⟩
    have hnm : ∀ k, k < n → (P.Nm k).size ≤ 60 ∧ (P.Nd k).size ≤ 60 := fun k hk => by
      have : ¬ (60 < (P.Nm k).size ∨ 60 < (P.Nd k).size) := fun h => hl1 ⟨k, hk, decide_eq_true h⟩
      omega
    have h20 : ∀ k, k < m → L.N k ≤ 20 := fun k hk => by
      have : ¬ 20 < L.N k := fun h => hl2 ⟨k, hk, decide_eq_true h⟩
      omega
    have ST := Lib.hid fun w hE hP hL => treport A B n c m d P L from_ sec (by omega) (by omega) hnm h20 w hE hP hL
    have SR := Lib.hid fun w hP hL => rreport A B n c m d P L from_ sec (by omega) (by omega) hnm h20 w hP hL
    clear hl1 hl2
    have hz : er0 ≠ 0 := by
      rintro rfl
      have := rep_big hR0
      omega
    have t5 : (er0 == 0) = false := by simpa using hz
    have t6 : (er0 != 0) = true := by simpa using hz
    clear hE hP hL hn hm hz hR0 hnm h20
    go_enter Tryz.func8, Tryz.ntmps8
    go_wp2_with (first
      | (go_at_call 11
         with_reducible refine (SA.out _ (HE.out.below H0.out)).mono ?_
         rintro e w1 ⟨rfl, hb1⟩
         have H1 := Lib.hid (below_step H0.out hb1)
         clear hb1)
      | (go_at_call 40
         with_reducible refine (SL1.out _ (HP.out.below (Nat.le_refl _) H1.out)).mono ?_
         rintro e w2 ⟨rfl, hb2⟩
         have H2 := Lib.hid (below_step H1.out hb2)
         clear hb2)
      | (go_at_call 42
         with_reducible refine (SL2.out _ (HL.out.below (Nat.le_refl _) H2.out)).mono ?_
         rintro e w3 ⟨rfl, hb3⟩
         have H3 := Lib.hid (below_step H2.out hb3)
         clear hb3)
      | (go_at_call 44
         with_reducible refine (ST.out _ (HE.out.below H3.out) (HP.out.below (Nat.le_refl _) H3.out) (HL.out.below (Nat.le_refl _) H3.out)).mono ?_
         rintro e w4 ⟨R1, er1, A1, N1, c1, hr1, rfl, hN1, hc1, hs1, hb4⟩
         obtain ⟨rfl, rfl⟩ := HR0.out.uniq hr1
         have HN1 := Lib.hid hN1
         have H4 := Lib.hid (below_step H3.out hb4)
         have HS4 := Lib.hid hs1
         clear hr1 hN1 hc1 hs1
         clear hb4)
      | (go_at_call 45
         with_reducible refine (SR.out _ (HP.out.below (Nat.le_refl _) H4.out) (HL.out.below (Nat.le_refl _) H4.out)).mono ?_
         rintro e w5 ⟨R2, er2, A2, N2, c2, hr2, rfl, hN2, hc2, hs2, hb5⟩
         obtain ⟨rfl, rfl⟩ := HR0.out.uniq hr2
         obtain rfl : N2 = N1 := hN2.trans HN1.out.symm
         have H5 := Lib.hid (below_step H4.out hb5)
         have HS5 := Lib.hid (HS4.out.below (Nat.le_refl _) hb5)
         have HT5 := Lib.hid hs2
         clear hr2 hN2 hc2 hs2
         clear hb5)
      | (go_at_call 19
         with_reducible refine (sequal_same _ _ _ _ _ _ _ HS5.out HT5.out).mono ?_
         rintro e w6 ⟨rfl, hb6⟩
         have H6 := Lib.hid (below_step H5.out hb6)
         have HS6 := Lib.hid (HS5.out.below (Nat.le_refl _) hb6)
         clear hb6))
    go_ret
    exact ⟨rfl, H6.out⟩
  case inl =>
    have t1 : decide ((10 : Int) < (n : Int)) = false := decide_eq_false (by omega)
    have t1' : decide (10 < n) = false := decide_eq_false (by omega)
    have t3 : decide ((1005 : Int) < (n : Int)) = false := decide_eq_false (by omega)
    have t3' : decide (1005 < n) = false := decide_eq_false (by omega)
    by_cases hm : 1005 < m
    · have t4 : decide ((1005 : Int) < (m : Int)) = true := decide_eq_true (by omega)
      have t4' : decide (1005 < m) = true := decide_eq_true hm
      clear hE hP hL hn hm
      go_enter Tryz.func8, Tryz.ntmps8
      go_wp2_with (first
        | (go_at_call 11
           with_reducible refine (SA.out _ (HE.out.below H0.out)).mono ?_
           rintro e w1 ⟨rfl, hb1⟩
           have H1 := Lib.hid (below_step H0.out hb1)
           clear hb1))
      go_ret
      exact ⟨rfl, H1.out⟩
    have t4 : decide ((1005 : Int) < (m : Int)) = false := decide_eq_false (by omega)
    have t4' : decide (1005 < m) = false := decide_eq_false hm
    by_cases hl1 : ∃ j, j < n ∧ (fun j => decide (60 < (P.Nm j).size ∨ 60 < (P.Nd j).size)) j = true
    · have SL1 := Lib.hid fun w hp => has_longp A n c P w (by omega) hp true ⟨fun _ => hl1, fun _ => rfl⟩
      clear hE hP hL hn hm hl1
      go_enter Tryz.func8, Tryz.ntmps8
      go_wp2_with (first
        | (go_at_call 11
           with_reducible refine (SA.out _ (HE.out.below H0.out)).mono ?_
           rintro e w1 ⟨rfl, hb1⟩
           have H1 := Lib.hid (below_step H0.out hb1)
           clear hb1)
        | (go_at_call 40
           with_reducible refine (SL1.out _ (HP.out.below (Nat.le_refl _) H1.out)).mono ?_
           rintro e w2 ⟨rfl, hb2⟩
           have H2 := Lib.hid (below_step H1.out hb2)
           clear hb2))
      go_ret
      exact ⟨rfl, H2.out⟩
    have SL1 := Lib.hid fun w hp => has_longp A n c P w (by omega) hp false ⟨fun h => (by cases h), fun h => absurd h hl1⟩
    by_cases hl2 : ∃ j, j < m ∧ (fun j => decide (20 < L.N j)) j = true
    · have SL2 := Lib.hid fun w hp => has_longe B m d L w (by omega) hp true ⟨fun _ => hl2, fun _ => rfl⟩
      clear hE hP hL hn hm hl1 hl2
      go_enter Tryz.func8, Tryz.ntmps8
      go_wp2_with (first
        | (go_at_call 11
           with_reducible refine (SA.out _ (HE.out.below H0.out)).mono ?_
           rintro e w1 ⟨rfl, hb1⟩
           have H1 := Lib.hid (below_step H0.out hb1)
           clear hb1)
        | (go_at_call 40
           with_reducible refine (SL1.out _ (HP.out.below (Nat.le_refl _) H1.out)).mono ?_
           rintro e w2 ⟨rfl, hb2⟩
           have H2 := Lib.hid (below_step H1.out hb2)
           clear hb2)
        | (go_at_call 42
           with_reducible refine (SL2.out _ (HL.out.below (Nat.le_refl _) H2.out)).mono ?_
           rintro e w3 ⟨rfl, hb3⟩
           have H3 := Lib.hid (below_step H2.out hb3)
           clear hb3))
      go_ret
      exact ⟨rfl, H3.out⟩
    have SL2 := Lib.hid fun w hp => has_longe B m d L w (by omega) hp false ⟨fun h => (by cases h), fun h => absurd h hl2⟩
    have hnm : ∀ k, k < n → (P.Nm k).size ≤ 60 ∧ (P.Nd k).size ≤ 60 := fun k hk => by
      have : ¬ (60 < (P.Nm k).size ∨ 60 < (P.Nd k).size) := fun h => hl1 ⟨k, hk, decide_eq_true h⟩
      omega
    have h20 : ∀ k, k < m → L.N k ≤ 20 := fun k hk => by
      have : ¬ 20 < L.N k := fun h => hl2 ⟨k, hk, decide_eq_true h⟩
      omega
    have ST := Lib.hid fun w hE hP hL => treport A B n c m d P L from_ sec (by omega) (by omega) hnm h20 w hE hP hL
    have SR := Lib.hid fun w hP hL => rreport A B n c m d P L from_ sec (by omega) (by omega) hnm h20 w hP hL
    clear hl1 hl2
    by_cases hz : er0 = 0
    case neg =>
      have t5 : (er0 == 0) = false := by simpa using hz
      have t6 : (er0 != 0) = true := by simpa using hz
      clear hE hP hL hn hm hz hR0 hnm h20
      go_enter Tryz.func8, Tryz.ntmps8
      go_wp2_with (first
        | (go_at_call 11
           with_reducible refine (SA.out _ (HE.out.below H0.out)).mono ?_
           rintro e w1 ⟨rfl, hb1⟩
           have H1 := Lib.hid (below_step H0.out hb1)
           clear hb1)
        | (go_at_call 40
           with_reducible refine (SL1.out _ (HP.out.below (Nat.le_refl _) H1.out)).mono ?_
           rintro e w2 ⟨rfl, hb2⟩
           have H2 := Lib.hid (below_step H1.out hb2)
           clear hb2)
        | (go_at_call 42
           with_reducible refine (SL2.out _ (HL.out.below (Nat.le_refl _) H2.out)).mono ?_
           rintro e w3 ⟨rfl, hb3⟩
           have H3 := Lib.hid (below_step H2.out hb3)
           clear hb3)
        | (go_at_call 44
           with_reducible refine (ST.out _ (HE.out.below H3.out) (HP.out.below (Nat.le_refl _) H3.out) (HL.out.below (Nat.le_refl _) H3.out)).mono ?_
           rintro e w4 ⟨R1, er1, A1, N1, c1, hr1, rfl, hN1, hc1, hs1, hb4⟩
           obtain ⟨rfl, rfl⟩ := HR0.out.uniq hr1
           have HN1 := Lib.hid hN1
           have H4 := Lib.hid (below_step H3.out hb4)
           have HS4 := Lib.hid hs1
           clear hr1 hN1 hc1 hs1
           clear hb4)
        | (go_at_call 45
           with_reducible refine (SR.out _ (HP.out.below (Nat.le_refl _) H4.out) (HL.out.below (Nat.le_refl _) H4.out)).mono ?_
           rintro e w5 ⟨R2, er2, A2, N2, c2, hr2, rfl, hN2, hc2, hs2, hb5⟩
           obtain ⟨rfl, rfl⟩ := HR0.out.uniq hr2
           obtain rfl : N2 = N1 := hN2.trans HN1.out.symm
           have H5 := Lib.hid (below_step H4.out hb5)
           have HS5 := Lib.hid (HS4.out.below (Nat.le_refl _) hb5)
           have HT5 := Lib.hid hs2
           clear hr2 hN2 hc2 hs2
           clear hb5)
        | (go_at_call 19
           with_reducible refine (sequal_same _ _ _ _ _ _ _ HS5.out HT5.out).mono ?_
           rintro e w6 ⟨rfl, hb6⟩
           have H6 := Lib.hid (below_step H5.out hb6)
           have HS6 := Lib.hid (HS5.out.below (Nat.le_refl _) hb6)
           clear hb6))
      go_ret
      exact ⟨rfl, H6.out⟩
    case pos =>
      subst hz
      obtain ⟨hmn, _, hall, hR⟩ := rep_big hR0
      subst hmn
      have HALL := Lib.hid hall
      have HRP := Lib.hid hR
      have HRL : Hid (R0.length ≤ 600) := by
        show R0.length ≤ 600
        have := pout_len P L from_ sec (n := m) h20 m (Nat.le_refl _)
        rw [hR]; omega
      have HRS : Hid (∀ k, k < R0.length → (R0.getD k ByteArray.empty).size ≤ 200) := fun k hk => by
        have := getD_mem hk
        rw [hR] at this
        exact pout_size hnm h20 _ (by rw [hR]; exact this)
      have HSK : Hid (sufN R0 R0.length = keptN P L from_ sec m) := by show _ = _; rw [hR]; exact suf_kept P L from_ sec m
      have HNM := Lib.hid hnm
      have H20 := Lib.hid h20
      have H10 := Lib.hid hn
      clear hE hP hL hn hm hR0 hnm h20 hall hR
      go_enter Tryz.func8, Tryz.ntmps8
      go_wp2_with (first
        | (go_at_call 11
           with_reducible refine (SA.out _ (HE.out.below H0.out)).mono ?_
           rintro e w1 ⟨rfl, hb1⟩
           have H1 := Lib.hid (below_step H0.out hb1)
           clear hb1)
        | (go_at_call 40
           with_reducible refine (SL1.out _ (HP.out.below (Nat.le_refl _) H1.out)).mono ?_
           rintro e w2 ⟨rfl, hb2⟩
           have H2 := Lib.hid (below_step H1.out hb2)
           clear hb2)
        | (go_at_call 42
           with_reducible refine (SL2.out _ (HL.out.below (Nat.le_refl _) H2.out)).mono ?_
           rintro e w3 ⟨rfl, hb3⟩
           have H3 := Lib.hid (below_step H2.out hb3)
           clear hb3)
        | (go_at_call 44
           with_reducible refine (ST.out _ (HE.out.below H3.out) (HP.out.below (Nat.le_refl _) H3.out) (HL.out.below (Nat.le_refl _) H3.out)).mono ?_
           rintro e w4 ⟨R1, er1, A1, N1, c1, hr1, rfl, hN1, hc1, hs1, hb4⟩
           obtain ⟨rfl, rfl⟩ := HR0.out.uniq hr1
           have HN1 := Lib.hid hN1
           have H4 := Lib.hid (below_step H3.out hb4)
           have HS4 := Lib.hid hs1
           clear hr1 hN1 hc1 hs1
           clear hb4)
        | (go_at_call 45
           with_reducible refine (SR.out _ (HP.out.below (Nat.le_refl _) H4.out) (HL.out.below (Nat.le_refl _) H4.out)).mono ?_
           rintro e w5 ⟨R2, er2, A2, N2, c2, hr2, rfl, hN2, hc2, hs2, hb5⟩
           obtain ⟨rfl, rfl⟩ := HR0.out.uniq hr2
           obtain rfl : N2 = N1 := hN2.trans HN1.out.symm
           have H5 := Lib.hid (below_step H4.out hb5)
           have HS5 := Lib.hid (HS4.out.below (Nat.le_refl _) hb5)
           have HT5 := Lib.hid hs2
           clear hr2 hN2 hc2 hs2
           clear hb5)
        | (go_at_call 19
           with_reducible refine (sequal_same _ _ _ _ _ _ _ HS5.out HT5.out).mono ?_
           rintro e w6 ⟨rfl, hb6⟩
           have H6 := Lib.hid (below_step H5.out hb6)
           have HS6 := Lib.hid (HS5.out.below (Nat.le_refl _) hb6)
           clear hb6))
      go_loopw [13, 78] (fun u v wr => ∃ (i : Nat), Hid (i ≤ m) ∧ v = .int .i64 i ∧ u = .int .i64 (keptN P L from_ sec i : Nat) ∧ Hid (Below w.heap.size w wr) ∧ Hid (StrIn wr A1 N2 (fun k => R0.getD k ByteArray.empty))) (fun _ v _ => m - (RowKit.intOf v).toNat)
      case atStart => exact ⟨0, Nat.zero_le _, rfl, rfl, H6, HS6⟩
      case round =>
        obtain ⟨i, Hi, rfl, rfl, HW, HSW⟩ := hrel
        by_cases hlt : i < m
        · have T0 : decide ((i : Int) < (m : Int)) = true := by simp <;> omega
          have T0' : decide (i < m) = true := decide_eq_true hlt
          obtain ⟨i', hi'⟩ : ∃ z, z = i + 1 := ⟨_, rfl⟩
          have x0 : IntKind.i64.wrap ((i : Int) + 1) = (i' : Int) := by have := H10.out; rw [IntKind.wrap_i64]; omega
          have HI' : Hid (i' ≤ m) := by show i' ≤ m; omega
          have HMS : Hid (m - (RowKit.intOf (Value.int .i64 (i' : Int))).toNat < m - (RowKit.intOf (Value.int .i64 (i : Int))).toNat) := by show _ < _; simp [RowKit.intOf]; omega
          have k0 : (0 : Int) ≤ (i : Int) := by omega
          have k1 : (i : Int) < (m : Int) := by omega
          obtain ⟨b1, off1, rfl, hb1, c0, c1', c2', c3, c4⟩ := (HP.out.below (Nat.le_refl _) HW.out).at hlt
          obtain ⟨b2, off2, rfl, hb2, e0, hev, hnc⟩ := (HL.out.below (Nat.le_refl _) HW.out).at hlt
          have HEV := Lib.hid hev
          have hNi := H20.out i hlt
          have hsz := HNM.out i hlt
          have her : (0 : Int) = perr P L from_ sec i := (HALL.out i hlt).symm
          have sc := fun w hE hT => tcheck (P.Nm i) (P.Nd i) (P.Ev i) (P.Vol i) (P.Tot i) (by unfold maxLen; omega) (by unfold maxLen; omega) (L.A i) (L.N i) (L.C i) (L.E i) from_ sec (by omega) w hE hT 0 her
          have SC := Lib.hid sc
          obtain ⟨F, hF⟩ : ∃ z, z = (pfnd P L from_ sec i).length := ⟨_, rfl⟩
          have hFc : F = (chkL (validB (P.Nm i) (P.Nd i) (P.Ev i) (P.Vol i) (P.Tot i) = true) (L.E i) (L.N i) from_ sec (P.Ev i) (P.Vol i) (P.Tot i)).length := hF
          have HF := Lib.hid hFc
          obtain ⟨kk, hkk⟩ : ∃ z, z = keptN P L from_ sec i := ⟨_, rfl⟩
          have hkl := keptN_le P L from_ sec i
          have HKS : Hid (keptN P L from_ sec i' = kk + (if F = 0 then 1 else 0)) := by show _ = _; rw [hi', hkk, hF]; rfl
          rw [← hkk] at hkl ⊢
          obtain ⟨kk', hkk'⟩ : ∃ z, z = kk + 1 := ⟨_, rfl⟩
          have x1 : IntKind.i64.wrap ((kk : Int) + 1) = (kk' : Int) := by have := H10.out; rw [IntKind.wrap_i64]; omega
          have HKK := Lib.hid hkk'
          generalize P.Nm i = nm at c0 SC hsz HF
          generalize P.Nd i = nd at c1' SC hsz HF
          generalize P.Ev i = ev at c2' SC HF
          generalize P.Vol i = vol at c3 SC HF
          generalize P.Tot i = tot at c4 SC HF
          clear hi' hlt hev hNi hsz her sc hF hFc hnc hkk hkl hkk'
          go_upto_region 15 with fail
          have HBG := Lib.hid (Blk.new wr 87 #[.string nm, .string nd, .int .i64 ev, .int .i64 vol, .int .i64 tot])
          have hal : Below wr.heap.size wr (wr.alloc (Obj.cells #[.string nm, .string nd, .int .i64 ev, .int .i64 vol, .int .i64 tot] 87)) := (Below.refl _ wr).alloc (Nat.le_refl _) _
          have HW4 := Lib.hid (below_step HW.out hal)
          have HS4 := Lib.hid (HSW.out.below (Nat.le_refl _) hal)
          have HEV4 := Lib.hid (HEV.out.below (Nat.le_refl _) hal)
          have e4 := (hal.cell (p := ⟨b2, off2 + i, none⟩) hb2).trans e0
          generalize wr.alloc (Obj.cells #[.string nm, .string nd, .int .i64 ev, .int .i64 vol, .int .i64 tot] 87) = wf at HBG HW4 HS4 HEV4 e4 ⊢
          generalize wr.heap.size = G at HBG ⊢
          clear hal c0 c1' c2' c3 c4 e0 hb1 hb2 HEV
          have HE4 : Hid (Env5 wf) := HE.out.below HW4.out
          obtain ⟨p0, p1, p2, p3, p4⟩ := perm_cells HBG.out
          by_cases hF0 : F = 0
          all_goals have HFF := Lib.hid hF0
          all_goals try have t8 : ((F : Int) == 0) = false := by rw [beq_eq_false_iff_ne]; omega
          all_goals try have t9 : (F == 0) = false := by simpa using hF0
          all_goals try subst hF0
          all_goals
            go_region_held3 (fun w' => w'.cell? ⟨G, 0, none⟩ = some (.string nm) ∧ w'.cell? ⟨G, 1, none⟩ = some (.string nd) ∧ w'.cell? ⟨G, 2, none⟩ = some (.int .i64 ev) ∧ w'.cell? ⟨G, 3, none⟩ = some (.int .i64 vol) ∧ w'.cell? ⟨G, 4, none⟩ = some (.int .i64 tot) ∧ w'.cell? ⟨b2, off2 + i, none⟩ = some (.slice (L.A i) (L.N i) (L.C i))) (first | exact ⟨p0, p1, p2, p3, p4, e4⟩ | exact ⟨z0, z1, z2, z3, z4, z5⟩) (first
              | (go_at_call 46
                 with_reducible refine (SC.out _ ?_ ?_).mono ?_
                 focus (exact HE4.out.env.below ((Below.refl _ wf).drew))
                 focus (exact HEV4.out.below (Nat.le_refl _) ((Below.refl _ wf).drew))
                 rintro e w5 ⟨A3, N3, c3, rfl, hN3, hF3, hb5⟩
                 have hb5' : Below wf.heap.size wf w5 := ((Below.refl _ wf).drew).trans hb5
                 have HW5 := Lib.hid (below_step HW4.out hb5')
                 have HS5 := Lib.hid (HS4.out.below (Nat.le_refl _) hb5')
                 have HN3 := Lib.hid (hN3.trans HF.out.symm)
                 obtain ⟨z0, z1, z2, z3, z4⟩ := perm_cells (HBG.out.call hb5')
                 have z5 := (hb5'.cell (p := ⟨b2, off2 + i, none⟩) (World.block_lt_of_cell? wf _ e4)).trans e4
                 clear hN3 hF3 hb5 hb5'))
          all_goals try (obtain rfl : N3 = 0 := HN3.out)
          all_goals try (obtain rfl : N3 = F := HN3.out)
          all_goals (go_wp2_with fail)
          all_goals go_roundw
          all_goals first
            | exact HMS.out
            | exact ⟨i', HI', rfl, by have h := HKS.out; rw [if_neg HFF.out, Nat.add_zero] at h; rw [h], HW5, HS5⟩
            | exact ⟨i', HI', rfl, by have h := HKS.out; rw [if_pos trivial, ← HKK.out] at h; rw [h], HW5, HS5⟩
        · have hin : i = m := by have := Hi.out; omega
          have T0 : decide ((i : Int) < (m : Int)) = false := by simp <;> omega
          have T0' : decide (i < m) = false := decide_eq_false hlt
          have HKM : Hid (keptN P L from_ sec i = keptN P L from_ sec m) := by show _ = _; rw [hin]
          rw [HKM.out, ← HSK.out]
          have HNR : Hid (N2 = R0.length) := HN1.out
          obtain ⟨tt, htt⟩ : ∃ z, z = sufN R0 R0.length := ⟨_, rfl⟩
          have HTT := Lib.hid htt
          rw [← htt]
          clear hlt hin htt
          go_wp2_with fail
          go_loopw [18, 104] (fun u v wr => ∃ (j : Nat), Hid (j ≤ N2) ∧ v = .int .i64 j ∧ u = .int .i64 (sufN R0 j : Nat) ∧ Hid (Below w.heap.size w wr) ∧ Hid (StrIn wr A1 N2 (fun k => R0.getD k ByteArray.empty))) (fun _ v _ => N2 - (RowKit.intOf v).toNat)
          case atStart => exact ⟨0, Nat.zero_le _, rfl, rfl, HW, HSW⟩
          case round =>
            obtain ⟨j, Hj, rfl, rfl, HV, HSV⟩ := hrel
            by_cases hjt : j < N2
            · have T1 : decide ((j : Int) < (N2 : Int)) = true := by simp <;> omega
              have T1' : decide (j < N2) = true := decide_eq_true hjt
              obtain ⟨j', hj'⟩ : ∃ z, z = j + 1 := ⟨_, rfl⟩
              have x1 : IntKind.i64.wrap ((j : Int) + 1) = (j' : Int) := by have h1 := HRL.out; have h2 := HNR.out; rw [IntKind.wrap_i64]; omega
              have HJ' : Hid (j' ≤ N2) := by show j' ≤ N2; omega
              have HMS2 : Hid (N2 - (RowKit.intOf (Value.int .i64 (j' : Int))).toNat < N2 - (RowKit.intOf (Value.int .i64 (j : Int))).toNat) := by show _ < _; simp [RowKit.intOf]; omega
              have m0 : (0 : Int) ≤ (j : Int) := by omega
              have m1 : (j : Int) < (N2 : Int) := by omega
              obtain ⟨fb, foff, rfl, hfb, f0⟩ := HSV.out.at hjt
              have hs2 := HRS.out j (by rw [← HNR.out]; exact hjt)
              have f0' : wr.cell? ⟨fb, foff + j, none⟩ = some (.string (R0.getD j ByteArray.empty)) := f0
              obtain ⟨ss, hss⟩ : ∃ z, z = sufN R0 j := ⟨_, rfl⟩
              have hsl := sufN_le R0 j
              have HSS : Hid (sufN R0 j' = ss + (if isK (R0.getD j ByteArray.empty) = true then 1 else 0)) := by show _ = _; rw [hj', hss]; rfl
              rw [← hss] at hsl ⊢
              obtain ⟨ss', hss'⟩ : ∃ z, z = ss + 1 := ⟨_, rfl⟩
              have x2 : IntKind.i64.wrap ((ss : Int) + 1) = (ss' : Int) := by have h1 := HRL.out; have h2 := HNR.out; rw [IntKind.wrap_i64]; omega
              have HS2 := Lib.hid hss'
              obtain ⟨f, hf⟩ : ∃ z, z = isK (R0.getD j ByteArray.empty) := ⟨_, rfl⟩
              have SH := Lib.hid fun w => tsuf (R0.getD j ByteArray.empty) hs2 f hf.symm w
              rw [← hf] at HSS
              generalize R0.getD j ByteArray.empty = sj at f0' SH
              clear hj' hjt f0 hs2 hss hsl hss' hf
              cases f
              all_goals
                go_wp2_with (first
                  | (go_at_call 38
                     with_reducible refine (SH.out _).mono ?_
                     rintro e w5 ⟨rfl, hb5⟩
                     have HV5 := Lib.hid (below_step HV.out hb5)
                     have HSV5 := Lib.hid (HSV.out.below (Nat.le_refl _) hb5)
                     clear hb5))
              all_goals go_roundw
              all_goals first
                | exact HMS2.out
                | exact ⟨j', HJ', rfl, by rw [HSS.out]; rfl, HV5, HSV5⟩
                | exact ⟨j', HJ', rfl, by rw [HSS.out, HS2.out]; rfl, HV5, HSV5⟩
            · have hjn : j = N2 := by have := Hj.out; omega
              have T1 : decide ((j : Int) < (N2 : Int)) = false := by simp <;> omega
              have T1' : decide (j < N2) = false := decide_eq_false hjt
              have HSE : Hid (sufN R0 j = tt) := by show _ = _; rw [hjn, HNR.out, HTT.out]
              rw [HSE.out]
              clear hjn hjt
              go_wp2_with fail
              go_ret
              exact ⟨by first | rfl | (simp; done), HV.out⟩
end Go.Proofs.YtfldmnikdejekaaGreatDoor

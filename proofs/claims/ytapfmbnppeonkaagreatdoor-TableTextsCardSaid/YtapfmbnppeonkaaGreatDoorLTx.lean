/- The walk of the law TableTexts. -/
import Derived.Test.YtapfmbnppeonkaaGreatDoorPrS
import Derived.Test.YtapfmbnppeonkaaGreatDoorMgA
import Derived.Test.YtapfmbnppeonkaaGreatDoorAwakeT
namespace Go.Proofs.YtapfmbnppeonkaaGreatDoor
open Go.RowKit
set_option linter.unusedVariables false
set_option linter.unusedSimpArgs false

theorem tx_uniq {n n' : Nat} {X Y X' Y' : Nat → Int} (h : TabOK n X Y) (h' : TabOK n' X' Y') (e : txL X Y n = txL X' Y' n') : n = n' ∧ ∀ k, k < n → X k = X' k ∧ Y k = Y' k := by
  obtain ⟨m, rfl⟩ : ∃ m, n = m + 1 := ⟨n - 1, by have := h.1; omega⟩
  obtain ⟨m', rfl⟩ : ∃ m, n' = m + 1 := ⟨n' - 1, by have := h'.1; omega⟩
  obtain ⟨e1, e2⟩ := tx_inj e (fun k hk => h.near k hk) (fun k hk => h'.near k hk)
  exact ⟨by omega, e2⟩
theorem tparse_ok (s : ByteArray) (hs : s.size ≤ 100000) (n : Nat) (X Y : Nat → Int) (hok : TabOK n X Y) (hx : s.data.toList = txL X Y n) (w : World) (hE : Env w) :
    Calls Tryz.prog 6 #[.string s] w fun e w' => ∃ g cap : Nat, e = .returned (.tuple #[.slice (some ⟨g, 0, none⟩) n cap, .int .i64 0]) ∧ TabAt w' g 0 n X Y ∧ Below w.heap.size w w' := by
  refine (tparse s hs w hE).mono fun e w' h => ?_
  rcases h with ⟨n', X', Y', g, cap, h1, h2, rfl, h4, h5, h6⟩ | ⟨h1, _⟩
  · obtain ⟨rfl, hk⟩ := tx_uniq h1 hok (h2.symm.trans hx)
    exact ⟨g, cap, rfl, h5.congr (fun k h => (hk k h).1) (fun k h => (hk k h).2), h6⟩
  · exact absurd hx (h1 n X Y hok)
theorem tparse_no (s : ByteArray) (hs : s.size ≤ 100000) (hno : ∀ n X Y, TabOK n X Y → s.data.toList ≠ txL X Y n) (w : World) (hE : Env w) :
    Calls Tryz.prog 6 #[.string s] w fun e w' => e = .returned (.tuple #[.slice none 0 0, .int .i64 7]) ∧ Below w.heap.size w w' := by
  refine (tparse s hs w hE).mono fun e w' h => ?_
  rcases h with ⟨n', X', Y', g, cap, h1, h2, _⟩ | ⟨_, h2, h3⟩
  · exact absurd h2 (hno n' X' Y' h1)
  · exact ⟨h2, h3⟩
theorem rparse_ok (s : ByteArray) (hs : s.size ≤ 100000) (n : Nat) (X Y : Nat → Int) (hok : TabOK n X Y) (hx : s.data.toList = txL X Y n) (w : World) :
    Calls Tryz.prog 7 #[.string s] w fun e w' => ∃ g cap : Nat, e = .returned (.tuple #[.slice (some ⟨g, 0, none⟩) n cap, .bool true]) ∧ TabAt w' g 0 n X Y ∧ Below w.heap.size w w' := by
  refine (rparse s hs w).mono fun e w' h => ?_
  rcases h with ⟨n', X', Y', g, cap, h1, h2, rfl, h4, h5, h6⟩ | ⟨h1, _⟩
  · obtain ⟨rfl, hk⟩ := tx_uniq h1 hok (h2.symm.trans hx)
    exact ⟨g, cap, rfl, h5.congr (fun k h => (hk k h).1) (fun k h => (hk k h).2), h6⟩
  · exact absurd hx (h1 n X Y hok)
theorem rparse_no (s : ByteArray) (hs : s.size ≤ 100000) (hno : ∀ n X Y, TabOK n X Y → s.data.toList ≠ txL X Y n) (w : World) :
    Calls Tryz.prog 7 #[.string s] w fun e w' => e = .returned (.tuple #[.slice none 0 0, .bool false]) ∧ Below w.heap.size w w' := by
  refine (rparse s hs w).mono fun e w' h => ?_
  rcases h with ⟨n', X', Y', g, cap, h1, h2, _⟩ | ⟨_, h2, h3⟩
  · exact absurd h2 (hno n' X' Y' h1)
  · exact ⟨h2, h3⟩
theorem tlong (A : Option Addr) (n c : Nat) (hn : n ≤ 9223372036854775807) (w : World) : Calls Tryz.prog 5 #[.slice A n c] w fun e w' => e = .returned (.bool (decide (105 < n))) ∧ w = w' := by
  have e : decide ((105 : Int) < (n : Int)) = decide (105 < n) := by
    by_cases h : 105 < n
    · rw [decide_eq_true h, decide_eq_true (by omega)]
    · rw [decide_eq_false h, decide_eq_false (by omega)]
  go_enter Tryz.func5, Tryz.ntmps5
  go_wp2_with fail
  go_ret
  exact ⟨by first | rfl | (simp), rfl⟩
set_option maxRecDepth 100000 in
set_option maxHeartbeats 8000000 in
theorem texts_walk (A : Option Addr) (n c : Nat) (X Y : Nat → Int) (s : ByteArray) (w : World) (ht : TabIn w A n X Y) (hE : Env w) :
    Calls Tryz.prog 3 #[.slice A n c, .string s] w fun e w' => e = .returned (.bool true) ∧ Below w.heap.size w w' := by
  have SA := Lib.hid cawake
  have HE := Lib.hid hE
  have sl := fun w => tlong A n c ht.1 w
  by_cases h1 : 105 < n
  · rw [decide_eq_true h1] at sl
    have SL := Lib.hid sl
    clear sl h1 hE ht
    go_enter Tryz.func3, Tryz.ntmps3
    go_wp2_with (first
      | (go_at_call 4
         with_reducible refine (SA.out _).mono ?_
         rintro e w1 ⟨rfl, hb1⟩
         have H1 := Lib.hid hb1
         clear hb1)
      | (go_at_call 5
         with_reducible refine (SL.out _).mono ?_
         rintro e w2 ⟨rfl, rfl⟩))
    go_ret
    exact ⟨rfl, H1.out⟩
  rw [decide_eq_false h1] at sl
  have SL := Lib.hid sl
  by_cases h2 : 2000 < s.size
  · have T1 : decide ((2000 : Int) < (s.size : Int)) = true := decide_eq_true (by omega)
    have T1' : decide (2000 < s.size) = true := decide_eq_true h2
    clear sl h1 h2 hE ht
    go_enter Tryz.func3, Tryz.ntmps3
    go_wp2_with (first
      | (go_at_call 4
         with_reducible refine (SA.out _).mono ?_
         rintro e w1 ⟨rfl, hb1⟩
         have H1 := Lib.hid hb1
         clear hb1)
      | (go_at_call 5
         with_reducible refine (SL.out _).mono ?_
         rintro e w2 ⟨rfl, rfl⟩))
    go_ret
    exact ⟨rfl, H1.out⟩
  have T1 : decide ((2000 : Int) < (s.size : Int)) = false := decide_eq_false (by omega)
  have T1' : decide (2000 < s.size) = false := decide_eq_false h2
  have hs : s.size ≤ 100000 := by omega
  have HTI := Lib.hid ht
  have SN := Lib.hid rsame_nil
  by_cases hv : TabOK n X Y
  · have ht0 := ht.2
    rcases ht0 with h0 | ⟨b, off, rfl, htb⟩
    · have := hv.1; omega
    have hbt := htb.1
    have HT := Lib.hid htb
    have HV := Lib.hid hv
    have HV2 := Lib.hid hv.2.1
    have ST := Lib.hid fun w h hE => ttext b off n c X Y w hv h hE
    have sv := fun w h => rvalid_any (some ⟨b, off, none⟩) n c X Y w ⟨ht.1, .inr ⟨b, off, rfl, h⟩⟩
    rw [tabB_true hv] at sv
    have SV := Lib.hid sv
    have SX := Lib.hid fun w h => rtext_ok b off n c X Y w hv h
    obtain ⟨q, hq⟩ : ∃ q : ByteArray, q = ⟨(txL X Y n).toArray⟩ := ⟨_, rfl⟩
    have hqs : q.size ≤ 100000 := by
      have e : q.size = (txL X Y n).length := by rw [hq]; rfl
      have := tx_len (fun k hk => hv.near k hk)
      have := hv.2.1
      omega
    have S3 := Lib.hid fun w hE => tparse_ok q hqs n X Y hv (by rw [hq]) w hE
    rw [← hq] at ST SX
    clear sl h1 h2 hE ht hv htb sv hq hqs
    by_cases hT : ∃ N PX PY, TabOK N PX PY ∧ s.data.toList = txL PX PY N
    · obtain ⟨N, PX, PY, hN, hx⟩ := hT
      have HN := Lib.hid hN
      have HN2 := Lib.hid hN.2.1
      have S1 := Lib.hid fun w hE => tparse_ok s hs N PX PY hN hx w hE
      have S2 := Lib.hid fun w => rparse_ok s hs N PX PY hN hx w
      clear hN hx hs
      go_enter Tryz.func3, Tryz.ntmps3
      go_wp2_with (first
        | (go_at_call 4
           with_reducible refine (SA.out _).mono ?_
           rintro e w1 ⟨rfl, hb1⟩
           have H1 := Lib.hid hb1
           clear hb1)
        | (go_at_call 5
           with_reducible refine (SL.out _).mono ?_
           rintro e w2 ⟨rfl, rfl⟩)
        | (go_at_call 6
           with_reducible refine (S1.out _ (HE.out.below H1.out)).mono ?_
           clear S1
           rintro e w3 ⟨g1, cap1, rfl, ht1, hb3⟩
           have H3 := Lib.hid (below_step H1.out hb3)
           have HA1 := Lib.hid ht1
           clear hb3 ht1)
        | (go_at_call 7
           with_reducible refine (S2.out _).mono ?_
           clear S2
           rintro e w4 ⟨g2, cap2, rfl, ht2, hb4⟩
           have H4 := Lib.hid (below_step H3.out hb4)
           have HA2 := Lib.hid ht2
           have HA3 := Lib.hid (HA1.out.below hb4 HA1.out.1)
           clear hb4 ht2)
        | (go_at_call 8
           with_reducible refine (rsame_gen g1 g2 0 0 N _ _ PX PY _ HN2.out HA3.out HA2.out).mono ?_
           clear HA3 HA2
           rintro e w5 ⟨rfl, hb5⟩
           have H5 := Lib.hid (below_step H4.out hb5)
           clear hb5)
        | (go_at_call 9
           with_reducible refine (ST.out _ (HT.out.below H5.out hbt) (HE.out.below H5.out)).mono ?_
           clear ST
           rintro e w6 ⟨rfl, hb6⟩
           have H6 := Lib.hid (below_step H5.out hb6)
           clear hb6)
        | (go_at_call 10
           with_reducible refine (SV.out _ (HT.out.below H6.out hbt)).mono ?_
           clear SV
           rintro e w7 ⟨rfl, hb7⟩
           have H7 := Lib.hid (below_step H6.out hb7)
           clear hb7)
        | (go_at_call 6
           with_reducible refine (S3.out _ (HE.out.below H7.out)).mono ?_
           clear S3
           rintro e w8 ⟨g8, cap8, rfl, ht8, hb8⟩
           have H8 := Lib.hid (below_step H7.out hb8)
           have HA8 := Lib.hid ht8
           clear hb8 ht8)
        | (go_at_call 11
           with_reducible refine (SX.out _ (HT.out.below H8.out hbt)).mono ?_
           clear SX
           rintro e w9 ⟨rfl, hb9⟩
           have H9 := Lib.hid (below_step H8.out hb9)
           have HA9 := Lib.hid (HA8.out.below hb9 HA8.out.1)
           clear hb9)
        | (go_at_call 8
           with_reducible refine (rsame_gen g8 b 0 off n _ _ X Y _ HV2.out HA9.out (HT.out.below H9.out hbt)).mono ?_
           rintro e w10 ⟨rfl, hb10⟩
           have H10 := Lib.hid (below_step H9.out hb10)
           clear hb10))
      go_ret
      exact ⟨rfl, H10.out⟩
    · have hno : ∀ n X Y, TabOK n X Y → s.data.toList ≠ txL X Y n := fun n X Y h1 h2 => hT ⟨n, X, Y, h1, h2⟩
      have S1 := Lib.hid fun w hE => tparse_no s hs hno w hE
      have S2 := Lib.hid fun w => rparse_no s hs hno w
      clear hT hno hs
      go_enter Tryz.func3, Tryz.ntmps3
      go_wp2_with (first
        | (go_at_call 4
           with_reducible refine (SA.out _).mono ?_
           rintro e w1 ⟨rfl, hb1⟩
           have H1 := Lib.hid hb1
           clear hb1)
        | (go_at_call 5
           with_reducible refine (SL.out _).mono ?_
           rintro e w2 ⟨rfl, rfl⟩)
        | (go_at_call 6
           with_reducible refine (S1.out _ (HE.out.below H1.out)).mono ?_
           clear S1
           rintro e w3 ⟨rfl, hb3⟩
           have H3 := Lib.hid (below_step H1.out hb3)
           clear hb3)
        | (go_at_call 7
           with_reducible refine (S2.out _).mono ?_
           clear S2
           rintro e w4 ⟨rfl, hb4⟩
           have H4 := Lib.hid (below_step H3.out hb4)
           clear hb4)
        | (go_at_call 8
           with_reducible refine (SN.out _).mono ?_
           clear SN
           rintro e w5 ⟨rfl, hb5⟩
           have H5 := Lib.hid (below_step H4.out hb5)
           clear hb5)
        | (go_at_call 9
           with_reducible refine (ST.out _ (HT.out.below H5.out hbt) (HE.out.below H5.out)).mono ?_
           clear ST
           rintro e w6 ⟨rfl, hb6⟩
           have H6 := Lib.hid (below_step H5.out hb6)
           clear hb6)
        | (go_at_call 10
           with_reducible refine (SV.out _ (HT.out.below H6.out hbt)).mono ?_
           clear SV
           rintro e w7 ⟨rfl, hb7⟩
           have H7 := Lib.hid (below_step H6.out hb7)
           clear hb7)
        | (go_at_call 6
           with_reducible refine (S3.out _ (HE.out.below H7.out)).mono ?_
           clear S3
           rintro e w8 ⟨g8, cap8, rfl, ht8, hb8⟩
           have H8 := Lib.hid (below_step H7.out hb8)
           have HA8 := Lib.hid ht8
           clear hb8 ht8)
        | (go_at_call 11
           with_reducible refine (SX.out _ (HT.out.below H8.out hbt)).mono ?_
           clear SX
           rintro e w9 ⟨rfl, hb9⟩
           have H9 := Lib.hid (below_step H8.out hb9)
           have HA9 := Lib.hid (HA8.out.below hb9 HA8.out.1)
           clear hb9)
        | (go_at_call 8
           with_reducible refine (rsame_gen g8 b 0 off n _ _ X Y _ HV2.out HA9.out (HT.out.below H9.out hbt)).mono ?_
           rintro e w10 ⟨rfl, hb10⟩
           have H10 := Lib.hid (below_step H9.out hb10)
           clear hb10))
      go_ret
      exact ⟨rfl, H10.out⟩
  · have ST := Lib.hid fun w h => ttext_bad A n c X Y w h hv
    have sv := fun w h => rvalid_any A n c X Y w h
    rw [tabB_false hv] at sv
    have SV := Lib.hid sv
    clear sl h1 h2 hE ht hv sv
    by_cases hT : ∃ N PX PY, TabOK N PX PY ∧ s.data.toList = txL PX PY N
    · obtain ⟨N, PX, PY, hN, hx⟩ := hT
      have HN := Lib.hid hN
      have HN2 := Lib.hid hN.2.1
      have S1 := Lib.hid fun w hE => tparse_ok s hs N PX PY hN hx w hE
      have S2 := Lib.hid fun w => rparse_ok s hs N PX PY hN hx w
      clear hN hx hs
      go_enter Tryz.func3, Tryz.ntmps3
      go_wp2_with (first
        | (go_at_call 4
           with_reducible refine (SA.out _).mono ?_
           rintro e w1 ⟨rfl, hb1⟩
           have H1 := Lib.hid hb1
           clear hb1)
        | (go_at_call 5
           with_reducible refine (SL.out _).mono ?_
           rintro e w2 ⟨rfl, rfl⟩)
        | (go_at_call 6
           with_reducible refine (S1.out _ (HE.out.below H1.out)).mono ?_
           clear S1
           rintro e w3 ⟨g1, cap1, rfl, ht1, hb3⟩
           have H3 := Lib.hid (below_step H1.out hb3)
           have HA1 := Lib.hid ht1
           clear hb3 ht1)
        | (go_at_call 7
           with_reducible refine (S2.out _).mono ?_
           clear S2
           rintro e w4 ⟨g2, cap2, rfl, ht2, hb4⟩
           have H4 := Lib.hid (below_step H3.out hb4)
           have HA2 := Lib.hid ht2
           have HA3 := Lib.hid (HA1.out.below hb4 HA1.out.1)
           clear hb4 ht2)
        | (go_at_call 8
           with_reducible refine (rsame_gen g1 g2 0 0 N _ _ PX PY _ HN2.out HA3.out HA2.out).mono ?_
           clear HA3 HA2
           rintro e w5 ⟨rfl, hb5⟩
           have H5 := Lib.hid (below_step H4.out hb5)
           clear hb5)
        | (go_at_call 9
           with_reducible refine (ST.out _ (HTI.out.below (Nat.le_refl _) H5.out)).mono ?_
           clear ST
           rintro e w6 ⟨rfl, hb6⟩
           have H6 := Lib.hid (below_step H5.out hb6)
           clear hb6)
        | (go_at_call 10
           with_reducible refine (SV.out _ (HTI.out.below (Nat.le_refl _) H6.out)).mono ?_
           clear SV
           rintro e w7 ⟨rfl, hb7⟩
           have H7 := Lib.hid (below_step H6.out hb7)
           clear hb7))
      go_ret
      exact ⟨rfl, H7.out⟩
    · have hno : ∀ n X Y, TabOK n X Y → s.data.toList ≠ txL X Y n := fun n X Y h1 h2 => hT ⟨n, X, Y, h1, h2⟩
      have S1 := Lib.hid fun w hE => tparse_no s hs hno w hE
      have S2 := Lib.hid fun w => rparse_no s hs hno w
      clear hT hno hs
      go_enter Tryz.func3, Tryz.ntmps3
      go_wp2_with (first
        | (go_at_call 4
           with_reducible refine (SA.out _).mono ?_
           rintro e w1 ⟨rfl, hb1⟩
           have H1 := Lib.hid hb1
           clear hb1)
        | (go_at_call 5
           with_reducible refine (SL.out _).mono ?_
           rintro e w2 ⟨rfl, rfl⟩)
        | (go_at_call 6
           with_reducible refine (S1.out _ (HE.out.below H1.out)).mono ?_
           clear S1
           rintro e w3 ⟨rfl, hb3⟩
           have H3 := Lib.hid (below_step H1.out hb3)
           clear hb3)
        | (go_at_call 7
           with_reducible refine (S2.out _).mono ?_
           clear S2
           rintro e w4 ⟨rfl, hb4⟩
           have H4 := Lib.hid (below_step H3.out hb4)
           clear hb4)
        | (go_at_call 8
           with_reducible refine (SN.out _).mono ?_
           clear SN
           rintro e w5 ⟨rfl, hb5⟩
           have H5 := Lib.hid (below_step H4.out hb5)
           clear hb5)
        | (go_at_call 9
           with_reducible refine (ST.out _ (HTI.out.below (Nat.le_refl _) H5.out)).mono ?_
           clear ST
           rintro e w6 ⟨rfl, hb6⟩
           have H6 := Lib.hid (below_step H5.out hb6)
           clear hb6)
        | (go_at_call 10
           with_reducible refine (SV.out _ (HTI.out.below (Nat.le_refl _) H6.out)).mono ?_
           clear SV
           rintro e w7 ⟨rfl, hb7⟩
           have H7 := Lib.hid (below_step H6.out hb7)
           clear hb7))
      go_ret
      exact ⟨rfl, H7.out⟩
end Go.Proofs.YtapfmbnppeonkaaGreatDoor

/- The walk of the law ReportsJoined. -/
import Derived.Test.YtlccoabcialppaaDoorJn
import Derived.Test.YtlccoabcialppaaDoorTexts
namespace Go.Proofs.YtlccoabcialppaaDoor
open Go.RowKit
set_option linter.unusedVariables false
set_option linter.unusedSimpArgs false

theorem rows_total (W : Int) (n : Nat) (X : Nat → ByteArray) : (∃ er : Int, er ≠ 0 ∧ RowsIs W n X [] er) ∨ (RowsIs W n X (rowsTo W X n) 0 ∧ (1 ≤ W ∧ W ≤ 500) ∧ (∀ i, i < n → ¬ badAt (X i)) ∧ (∀ i, i < n → ((X i).size : Int) ≤ W)) := by
  by_cases h1 : W < 1 ∨ 500 < W
  · exact .inl ⟨2, by omega, .range h1⟩
  · by_cases h2 : ∃ i, i < n ∧ badAt (X i)
    · exact .inl ⟨7, by omega, .form (by omega) h2⟩
    · have hg : ∀ i, i < n → ¬ badAt (X i) := fun i hi hb => h2 ⟨i, hi, hb⟩
      by_cases h3 : ∃ i, i < n ∧ W < ((X i).size : Int)
      · exact .inl ⟨5, by omega, .big (by omega) hg h3⟩
      · have hs : ∀ i, i < n → ((X i).size : Int) ≤ W := fun i hi => by
          have : ¬ W < ((X i).size : Int) := fun h => h3 ⟨i, hi, h⟩
          omega
        exact .inr ⟨.ok (by omega) hg hs, by omega, hg, hs⟩
theorem wl_getD (R : List ByteArray) : wl (fun k => R.getD k ByteArray.empty) R.length = R := by
  unfold wl
  apply List.ext_getElem
  · simp
  · intro i h1 h2
    simp [List.getD, h2]
theorem itoa_size {v : Int} (h1 : -1000000000000000000 < v) (h2 : v < 1000000000000000000) : (⟨(Lib.itoa v).toArray⟩ : ByteArray).size ≤ 20 := by
  have e : (⟨(Lib.itoa v).toArray⟩ : ByteArray).size = (Lib.itoa v).length := rfl
  rw [e]
  by_cases hv : v < 0
  · rw [itoa_neg' hv, List.length_cons, Lib.decDigits_length]
    have := nDigits_le 19 v.natAbs (by decide) (Nat.lt_of_lt_of_le (show v.natAbs < 1000000000000000000 by omega) (by decide))
    omega
  · rw [itoa_pos' hv, Lib.decDigits_length]
    have := nDigits_le 19 v.toNat (by decide) (Nat.lt_of_lt_of_le (show v.toNat < 1000000000000000000 by omega) (by decide))
    omega
theorem tmod_bound (v : Int) : -1000000000000000000 < Int.tmod v 1000000000000000000 ∧ Int.tmod v 1000000000000000000 < 1000000000000000000 := by
  have h := Int.tmod_add_mul_tdiv v 1000000000000000000
  rcases Int.le_total 0 v with h0 | h0
  · have h1 := Int.tmod_nonneg 1000000000000000000 h0
    have h2 := Int.tmod_lt_of_pos v (show (0 : Int) < 1000000000000000000 by omega)
    omega
  · have h1 := Int.tmod_nonneg 1000000000000000000 (show 0 ≤ -v by omega)
    have h2 := Int.tmod_lt_of_pos (-v) (show (0 : Int) < 1000000000000000000 by omega)
    rw [Int.neg_tmod] at h1 h2
    omega
set_option maxRecDepth 100000 in
set_option maxHeartbeats 4000000 in
theorem joined_walk (A : Option Addr) (n c : Nat) (X : Nat → ByteArray) (W v : Int) (w : World) (hE : Env w) (hT : StrIn w A n X) (hnc : n ≤ c) :
    Calls Tryd.prog 4 #[.slice A n c, .int .i64 W, .int .i64 v] w fun e w' => e = .returned (.bool true) ∧ Below w.heap.size w w' := by
  have HE := Lib.hid hE
  have HT := Lib.hid hT
  have HNC := Lib.hid hnc
  have SA := Lib.hid fun w hE => caw w hE
  by_cases h4 : 40 < n
  · have t2 : decide ((40 : Int) < (n : Int)) = true := decide_eq_true (by omega)
    have t2' : decide (40 < n) = true := decide_eq_true h4
    clear h4 hE hT hnc
    go_enter Tryd.func4, Tryd.ntmps4
    go_wp2_with (first | ((go_at_call 5; (with_reducible refine (SA.out _ ?_).mono ?_); (focus (exact HE.out)); rintro e w1 ⟨rfl, hb1⟩; obtain ⟨hc1, hf1⟩ := bcell hb1; have hz1 := hb1.size; (try simp at hz1); (try simp only [heap_drew, World.heap_drewN] at hz1); (try simp only [heap_drew, World.heap_drewN] at hc1); (try simp only [heap_drew, World.heap_drewN] at hf1); (try have hs1 := Nat.lt_of_succ_le hz1); (try have hs2 := Nat.lt_of_succ_lt hs1); (try have y0 : w.heap.size < w1.heap.size := by omega); (try have y1 : w.heap.size + 1 < w1.heap.size := by omega); (try have y2 : w.heap.size + 2 < w1.heap.size := by omega))))
    go_ret
    refine ⟨rfl, ?_⟩
    (repeat' (first | assumption | exact Below.refl _ _ | exact Below.size (by assumption) | (refine Below.setCell ?_ ?_ _) | (refine Below.alloc ?_ ?_ _) | (refine Below.drew ?_) | (refine below_drewN ?_ _) | (refine Below.trans ?_ (Below.mono ‹Below _ _ _› ?_)) | omega | (simp; done) | (simp; omega) | (simp at *; omega)))
  · have t2 : decide ((40 : Int) < (n : Int)) = false := decide_eq_false (by omega)
    have t2' : decide (40 < n) = false := decide_eq_false h4
    have H40 : Hid (n ≤ 40) := by show n ≤ 40; omega
    by_cases hl : ∃ j, j < n ∧ decide (600 < (X j).size) = true
    · have SL := Lib.hid fun w ht => has_longJoined A n c X w (by omega) ht true (by simp only [true_iff]; exact hl)
      clear h4 hE hT hl hnc
      go_enter Tryd.func4, Tryd.ntmps4
      go_wp2_with (first
        | ((go_at_call 5; (with_reducible refine (SA.out _ ?_).mono ?_); (focus (exact HE.out)); rintro e w1 ⟨rfl, hb1⟩; obtain ⟨hc1, hf1⟩ := bcell hb1; have hz1 := hb1.size; (try simp at hz1); (try simp only [heap_drew, World.heap_drewN] at hz1); (try simp only [heap_drew, World.heap_drewN] at hc1); (try simp only [heap_drew, World.heap_drewN] at hf1); (try have hs1 := Nat.lt_of_succ_le hz1); (try have hs2 := Nat.lt_of_succ_lt hs1); (try have y0 : w.heap.size < w1.heap.size := by omega); (try have y1 : w.heap.size + 1 < w1.heap.size := by omega); (try have y2 : w.heap.size + 2 < w1.heap.size := by omega))
           have HW1 := Lib.hid hb1
           clear hc1 hf1 hb1)
        | (go_at_call 6
           with_reducible refine (SL.out _ ?_).mono ?_
           focus (exact HT.out.below (Nat.le_refl _) HW1.out)
           rintro e w2 ⟨rfl, hb2⟩
           have HW2 := Lib.hid (below_step HW1.out hb2)
           clear hb2))
      go_ret
      exact ⟨rfl, HW2.out⟩
    · have hX : ∀ i, i < n → (X i).size ≤ 600 := fun i hi => by
        apply Classical.byContradiction
        intro h
        exact hl ⟨i, hi, decide_eq_true (by omega)⟩
      have H600 := Lib.hid hX
      have SL := Lib.hid fun w ht => has_longJoined A n c X w (by omega) ht false ⟨fun h => (by cases h), fun h => absurd h hl⟩
      have S3 := Lib.hid fun w ht => trows A n c X W (by omega) hX w ht
      rcases rows_total W n X with ⟨er, hne, hrows⟩ | ⟨hrows, hW, hg, hs⟩
      · have t5 : (er == 0) = false := by simp [hne]
        have t5' : decide (er = 0) = false := decide_eq_false hne
        have HRW := Lib.hid hrows
        clear h4 hE hT hl hX hnc hrows
        go_enter Tryd.func4, Tryd.ntmps4
        go_wp2_with (first
          | ((go_at_call 5; (with_reducible refine (SA.out _ ?_).mono ?_); (focus (exact HE.out)); rintro e w1 ⟨rfl, hb1⟩; obtain ⟨hc1, hf1⟩ := bcell hb1; have hz1 := hb1.size; (try simp at hz1); (try simp only [heap_drew, World.heap_drewN] at hz1); (try simp only [heap_drew, World.heap_drewN] at hc1); (try simp only [heap_drew, World.heap_drewN] at hf1); (try have hs1 := Nat.lt_of_succ_le hz1); (try have hs2 := Nat.lt_of_succ_lt hs1); (try have y0 : w.heap.size < w1.heap.size := by omega); (try have y1 : w.heap.size + 1 < w1.heap.size := by omega); (try have y2 : w.heap.size + 2 < w1.heap.size := by omega))
             have HW1 := Lib.hid hb1
             clear hc1 hf1 hb1)
          | (go_at_call 6
             with_reducible refine (SL.out _ ?_).mono ?_
             focus (exact HT.out.below (Nat.le_refl _) HW1.out)
             rintro e w2 ⟨rfl, hb2⟩
             have HW2 := Lib.hid (below_step HW1.out hb2)
             clear hb2)
          | (go_at_call 10
             with_reducible refine (S3.out _ ?_).mono ?_
             focus (exact HT.out.below (Nat.le_refl _) HW2.out)
             rintro e w3 ⟨R, e3, A3, c3, N3, hN3, hR3, rfl, hS3, hb3, _⟩
             obtain ⟨rfl, rfl⟩ := hR3.uniq HRW.out
             obtain rfl : N3 = 0 := hN3
             have HW3 := Lib.hid (below_step HW2.out hb3)
             clear hR3 hS3 hb3))
        go_ret
        exact ⟨by simp, HW3.out⟩
      · have HRW := Lib.hid hrows
        have HWB := Lib.hid hW
        have HG := Lib.hid hg
        have HSZ := Lib.hid hs
        have hrl := (rows_len W X n).1
        have hrs := rows_size (W := W) (X := X) n hs
        have hri := rows_inv (W := W) (X := X) n hg
        have hjr := jn_rows W X n
        have hrp := (rows_len W X n).2
        obtain ⟨R, hRe⟩ : ∃ R, R = rowsTo W X n := ⟨_, rfl⟩
        rw [← hRe] at HRW hrl hrs hri hjr hrp
        have hsz : ∀ k, k < R.length → (R.getD k ByteArray.empty).size ≤ 500 ∧ ((R.getD k ByteArray.empty).size : Int) ≤ W := fun k hk => by
          have h1 := hrs (R.getD k ByteArray.empty) (by rw [List.getD_eq_getElem?_getD, List.getElem?_eq_getElem hk]; exact List.getElem_mem _)
          omega
        have HSR := Lib.hid hsz
        have HRI := Lib.hid hri
        have HRL := Lib.hid hrl
        have HRP := Lib.hid hrp
        obtain ⟨x, hx⟩ : ∃ x : ByteArray, x = ⟨(jn (wl X n)).toArray⟩ := ⟨_, rfl⟩
        have sj1 := fun w ht => tjoin A n c X hnc (by omega) hX w ht
        rw [← hx] at sj1
        have SJ1 := Lib.hid sj1
        have SJ2 : Hid (∀ (A3 : Option Addr) (c3 N3 : Nat) w, N3 = R.length → N3 ≤ c3 → StrIn w A3 N3 (fun k => R.getD k ByteArray.empty) → Calls Tryd.prog 14 #[.slice A3 N3 c3, .string ⟨#[32]⟩] w fun e w' => e = .returned (.string x) ∧ Below w.heap.size w w') := by
          intro A3 c3 N3 w hN hc ht
          have h := tjoin A3 N3 c3 (fun k => R.getD k ByteArray.empty) hc (by omega) (fun i hi => by have := (hsz i (by omega)).1; omega) w ht
          rw [hN, wl_getD, hjr, ← hx, ← hN] at h
          exact h
        clear h4 hE hT hl hX hnc hrows hW hg hs hrl hrs hri hjr hrp hRe hsz hx sj1
        go_enter Tryd.func4, Tryd.ntmps4
        go_upto_region 10 with (first
          | ((go_at_call 5; (with_reducible refine (SA.out _ ?_).mono ?_); (focus (exact HE.out)); rintro e w1 ⟨rfl, hb1⟩; obtain ⟨hc1, hf1⟩ := bcell hb1; have hz1 := hb1.size; (try simp at hz1); (try simp only [heap_drew, World.heap_drewN] at hz1); (try simp only [heap_drew, World.heap_drewN] at hc1); (try simp only [heap_drew, World.heap_drewN] at hf1); (try have hs1 := Nat.lt_of_succ_le hz1); (try have hs2 := Nat.lt_of_succ_lt hs1); (try have y0 : w.heap.size < w1.heap.size := by omega); (try have y1 : w.heap.size + 1 < w1.heap.size := by omega); (try have y2 : w.heap.size + 2 < w1.heap.size := by omega))
             have HW1 := Lib.hid hb1
             clear hc1 hf1 hb1)
          | (go_at_call 6
             with_reducible refine (SL.out _ ?_).mono ?_
             focus (exact HT.out.below (Nat.le_refl _) HW1.out)
             rintro e w2 ⟨rfl, hb2⟩
             have HW2 := Lib.hid (below_step HW1.out hb2)
             clear hb2)
          | (go_at_call 10
             with_reducible refine (S3.out _ ?_).mono ?_
             focus (exact HT.out.below (Nat.le_refl _) HW2.out)
             rintro e w3 ⟨R', e3, A3, c3, N3, hN3, hR3, rfl, hS3, hb3, hc3⟩
             obtain ⟨rfl, rfl⟩ := hR3.uniq HRW.out
             have HN3 := Lib.hid hN3
             have HC3 := Lib.hid hc3
             have HS3 := Lib.hid hS3
             have HW3 := Lib.hid (below_step HW2.out hb3)
             clear hN3 hR3 hS3 hb3 hc3)
          | (go_at_call 14
             with_reducible refine (SJ2.out _ _ _ _ HN3.out HC3.out ?_).mono ?_
             focus (exact HS3.out)
             rintro e w4 ⟨rfl, hb4⟩
             have HW4 := Lib.hid (below_step HW3.out hb4)
             have HS4 := Lib.hid (HS3.out.below (Nat.le_refl _) hb4)
             clear hb4)
          | (go_at_call 14
             with_reducible refine (SJ1.out _ ?_).mono ?_
             focus (exact HT.out.below (Nat.le_refl _) HW4.out)
             rintro e w5 ⟨rfl, hb5⟩
             have HW5 := Lib.hid (below_step HW4.out hb5)
             have HS5 := Lib.hid (HS4.out.below (Nat.le_refl _) hb5)
             clear hb5))
        go_wp2_with fail
        go_loopw [46] (fun u wr => ∃ i : Nat, Hid (i ≤ N3) ∧ u = .int .i64 i ∧ Hid (Below w5.heap.size w5 wr)) (fun u _ => N3 - (intOf u).toNat)
        case atStart => exact ⟨0, Nat.zero_le _, rfl, Below.refl _ _⟩
        case round =>
          obtain ⟨i, Hi, rfl, HM⟩ := hrel
          by_cases hlt : i < N3
          · have T0 : decide ((i : Int) < (N3 : Int)) = true := by simp <;> omega
            have T0' : decide (i < N3) = true := decide_eq_true hlt
            obtain ⟨i', hi'⟩ : ∃ z, z = i + 1 := ⟨_, rfl⟩
            have h40 : N3 ≤ 40 := by have h1 := HN3.out; have h2 := HRL.out; have h3 := H40.out; omega
            have x0 : IntKind.i64.wrap ((i : Int) + 1) = (i' : Int) := by rw [IntKind.wrap_i64]; omega
            have HI' : Hid (i' ≤ N3) := by show i' ≤ N3; omega
            have HMS : Hid (N3 - (intOf (Value.int .i64 (i' : Int))).toNat < N3 - (intOf (Value.int .i64 (i : Int))).toNat) := by show _ < _; simp [intOf]; omega
            have k0 : (0 : Int) ≤ (i : Int) := by omega
            have k1 : (i : Int) < (N3 : Int) := by omega
            have hiR : i < R'.length := by have := HN3.out; omega
            have hst := HS5.out.below (Nat.le_refl _) HM.out
            obtain ⟨s, hs⟩ : ∃ z, z = R'.getD i ByteArray.empty := ⟨_, rfl⟩
            have hs5 := HSR.out i hiR
            obtain ⟨word, hbeg, hwid⟩ := HRI.out i hiR
            rw [← hs] at hs5 hbeg
            obtain ⟨a, b2, f, ha, hcut⟩ := tcut s word (by omega) hbeg
            have SC := Lib.hid hcut
            have t1 : decide (W < (s.size : Int)) = false := decide_eq_false (by omega)
            rcases Nat.eq_zero_or_pos i with hi0 | hi0
            · obtain ⟨b, off, rfl, hb, hX⟩ := hst.at hlt
              have e0 : off + i = off := by omega
              rw [← hs] at hX
              have t2 : decide ((0 : Int) < (i : Int)) = false := decide_eq_false (by omega)
              have t2' : decide (0 < i) = false := decide_eq_false (by omega)
              clear hi' hst hs hs5 hwid hbeg ha hcut hi0 e0 hiR h40
              go_wp2_with (first
                | (go_at_call 15
                   with_reducible refine (SC.out _).mono ?_
                   rintro e w6 ⟨rfl, hb6⟩
                   have HM6 := Lib.hid (below_step HM.out hb6)
                   clear hb6))
              go_roundw
              case rel => exact ⟨i', HI', rfl, HM6⟩
              case measure => exact HMS.out
            · obtain ⟨k, hk⟩ : ∃ k, i = k + 1 := ⟨i - 1, by omega⟩
              have hkR : k < R'.length := by omega
              have hw2 := hwid hi0
              obtain ⟨l, hl⟩ : ∃ z, z = R'.getD k ByteArray.empty := ⟨_, rfl⟩
              have hl5 := HSR.out k hkR
              rw [← hl] at hl5
              rw [show i - 1 = k by omega, ← hl] at hw2
              obtain ⟨b, off, hA1, hb, hX⟩ := hst.at hlt
              obtain ⟨b', off', hA2, hb', hXk⟩ := hst.at (k := k) (by omega)
              subst hA1
              injection hA2 with hA3
              injection hA3 with hA4 hA5
              subst hA4 hA5
              rw [← hs] at hX
              rw [← hl] at hXk
              have t2 : decide ((0 : Int) < (i : Int)) = true := decide_eq_true (by omega)
              have t2' : decide (0 < i) = true := decide_eq_true (by omega)
              have e1 : IntKind.i64.wrap ((i : Int) - 1) = (k : Int) := by rw [IntKind.wrap_i64]; omega
              have kk0 : (0 : Int) ≤ (k : Int) := by omega
              have kk1 : (k : Int) < (N3 : Int) := by omega
              have hwl : a.size ≤ s.size := by
                rw [ha]
                obtain ⟨_, rest, hr, _⟩ := hbeg
                rw [size_list, hr, List.length_append]; omega
              obtain ⟨q1, hq1⟩ : ∃ z : Nat, z = l.size + 1 := ⟨_, rfl⟩
              obtain ⟨q2, hq2⟩ : ∃ z : Nat, z = q1 + a.size := ⟨_, rfl⟩
              have y1 : IntKind.i64.wrap ((l.size : Int) + 1) = (q1 : Int) := by rw [IntKind.wrap_i64]; omega
              have y2 : IntKind.i64.wrap ((q1 : Int) + (a.size : Int)) = (q2 : Int) := by rw [IntKind.wrap_i64]; omega
              have t9 : decide ((q2 : Int) ≤ W) = false := decide_eq_false (by omega)
              have hbl := Lib.hid hb
              clear hi' hst hs hs5 hwid hbeg ha hcut hi0 hiR h40 hkR hw2 hl hl5 hwl hq1 hq2 hk hb' hlt
              go_wp2_with (first
                | (go_at_call 15
                   with_reducible refine (SC.out _).mono ?_
                   rintro e w6 ⟨rfl, hb6⟩
                   have HM6 := Lib.hid (below_step HM.out hb6)
                   have hXk6 := (hb6.cell (p := ⟨b, off + k, none⟩) hbl.out).trans hXk
                   clear hb6))
              go_roundw
              case rel => exact ⟨i', HI', rfl, HM6⟩
              case measure => exact HMS.out
          · have hin : i = N3 := by have := Hi.out; omega
            have T0 : decide ((i : Int) < (N3 : Int)) = false := by simp <;> omega
            have T0' : decide (i < N3) = false := decide_eq_false hlt
            have HWq : Hid (Below w.heap.size w wr) := below_step HW5.out HM.out
            clear hlt hin
            by_cases hn : n = 0
            · have hN0 : N3 = 0 := by have h1 := HN3.out; have h2 := HRL.out; omega
              subst hn hN0
              go_wp2_with fail
              go_ret
              exact ⟨by simp [*], HWq.out⟩
            · have t3 : decide ((n : Int) = 0) = false := decide_eq_false (by omega)
              have t3' : decide (n = 0) = false := decide_eq_false hn
              have t3n : (n : Int) ≠ 0 := by omega
              obtain ⟨b, off, rfl, hb, hX⟩ := (HT.out.below (Nat.le_refl _) HWq.out).at (k := 0) (by omega)
              obtain ⟨l, hl⟩ : ∃ z, z = X 0 := ⟨_, rfl⟩
              rw [← hl, Nat.add_zero] at hX
              have hl5 := HSZ.out 0 (by omega)
              have hlg := HG.out 0 (by omega)
              have hl1 : l.size ≤ 500 := by have := HWB.out; rw [← hl] at hl5; omega
              have hl2 : 1 ≤ l.size := by
                rw [← hl] at hlg
                rcases Nat.eq_zero_or_pos l.size with h | h
                · exact absurd (.inl h) hlg
                · exact h
              obtain ⟨hk1, hk2⟩ := tmod_bound v
              obtain ⟨k, hk⟩ : ∃ k, Int.tmod v 1000000000000000000 = k := ⟨_, rfl⟩
              rw [hk] at hk1 hk2
              have hsz20 := itoa_size hk1 hk2
              have sn := fun w => tnumber k hk1 hk2 w
              obtain ⟨d, hd⟩ : ∃ d : ByteArray, d = ⟨(Lib.itoa k).toArray⟩ := ⟨_, rfl⟩
              rw [← hd] at sn hsz20
              have SN := Lib.hid sn
              obtain ⟨s, hs⟩ : ∃ s : ByteArray, s = l ++ (⟨#[32]⟩ : ByteArray) ++ d := ⟨_, rfl⟩
              have hs' : s.data.toList = l.data.toList ++ 32 :: Lib.itoa k := by
                rw [hs, hd]; simp
              have hss : s.size = l.size + 1 + d.size := by rw [hs]; simp [ByteArray.size_append]; rfl
              have HRJ := Lib.hid fun h => rd_join hk1 hk2 hl2 h hs'
              have hll : (l.size : Int) ≤ 8388608 := by omega
              have hdd : (d.size : Int) ≤ 8388608 := by omega
              have hl1d : ((l ++ (⟨#[32]⟩ : ByteArray)).size : Int) ≤ 8388608 := by simp [ByteArray.size_append]; show _ + (1 : Int) ≤ _; omega
              have lim1 : ¬ 9223372036854775807 < l.size + 1 := by omega
              have lim2 : ¬ 9223372036854775807 < l.size + 1 + d.size := by omega
              have kz : (0 : Int) < (n : Int) := by omega
              have kz' : 0 < n := by omega
              have HSS := Lib.hid hss
              have HXL := Lib.hid hl
              have HS' := Lib.hid hs
              have HL1 : Hid (1 ≤ l.size ∧ l.size ≤ 500 ∧ d.size ≤ 20) := by refine ⟨hl2, hl1, hsz20⟩
              clear hn hl hl5 hlg hl1 hl2 hk1 hk2 hsz20 sn hd hs hs' hss
              go_upto_region 20 with fail
              go_cut [15] from 80 to 94 (fun z wx => z = .string s ∧ Below w.heap.size w wx)
              case first =>
                go_region_held3 (fun w' => w'.cell? ⟨b, off, none⟩ = some (.string l)) (first | exact hX | exact z1 | go_keep) (first
                  | (go_at_call 16
                     with_reducible refine (SN.out _).mono ?_
                     rintro e w6 ⟨rfl, hb6⟩
                     have z1 := (hb6.cell (p := ⟨b, off, none⟩) hb).trans hX
                     have HW6 : Hid (Below w.heap.size w w6) := (by first | exact below_step HWq.out.drew hb6 | exact below_step HWq.out hb6)
                     clear hb6))
                all_goals (go_wp2_with fail; go_meet)
                all_goals (exact ⟨by rw [HS'.out], HW6.out⟩)
              case rest =>
                obtain ⟨rfl, hmx⟩ := hcut
                generalize wc = wx at hmx ⊢
                have HMX := Lib.hid hmx
                clear hmx
                by_cases h5 : 500 < s.size
                · obtain ⟨l', n', e', hrd, hrc⟩ := tread s (by have := HSS.out; have := HL1.out; omega)
                  have he : e' = 4 := by
                    have h2 : RdIs s ByteArray.empty 0 4 := ⟨.inl ⟨h5, rfl, rfl, rfl⟩⟩
                    exact (hrd.uniq h2).2.2
                  subst he
                  have SR := Lib.hid hrc
                  have t5 : decide ((500 : Int) < (s.size : Int)) = true := decide_eq_true (by omega)
                  have t5' : decide (500 < s.size) = true := decide_eq_true h5
                  clear hrd hrc h5
                  go_wp2_with (first
                    | (go_at_call 8
                       with_reducible refine (SR.out _ ?_).mono ?_
                       focus (exact HE.out.at (Nat.le_refl _) HMX.out)
                       rintro e w7 ⟨rfl, hb7⟩
                       have HW7 := Lib.hid (below_step HMX.out hb7)
                       clear hb7))
                  go_ret
                  exact ⟨rfl, HW7.out⟩
                · have SR := Lib.hid fun w hE => tread_at (by omega) (HRJ.out (by omega)) w hE
                  have t5 : decide ((500 : Int) < (s.size : Int)) = false := decide_eq_false (by omega)
                  have t5' : decide (500 < s.size) = false := decide_eq_false h5
                  have HX0 := Lib.hid hX
                  have hbq := Lib.hid hb
                  obtain ⟨b', off', hA2, hb', hX'⟩ := (HT.out.below (Nat.le_refl _) HMX.out).at (k := 0) kz'
                  injection hA2 with hA3
                  injection hA3 with hA4 hA5
                  subst hA4 hA5
                  have hbx := Lib.hid hb'
                  rw [show X 0 = l from HXL.out.symm] at hX'
                  clear h5 hb'
                  go_wp2_with (first
                    | (go_at_call 8
                       with_reducible refine (SR.out _ ?_).mono ?_
                       focus (exact HE.out.at (Nat.le_refl _) HMX.out)
                       rintro e w7 ⟨rfl, hb7⟩
                       have HW7 := Lib.hid (below_step HMX.out hb7)
                       have hX7 := (hb7.cell (p := ⟨b, off, none⟩) hbx.out).trans hX'
                       clear hb7))
                  go_ret
                  exact ⟨by simp [*], HW7.out⟩
end Go.Proofs.YtlccoabcialppaaDoor

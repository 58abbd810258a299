/- Fractions in lowest terms, made by the reference. -/
import Derived.Test.YtpeelnjkppdkbaaMake
import Derived.Test.YtpeelnjkppdkbaaRefB
namespace Go.Proofs.Ytpeelnjkppdkbaa
open Go.RowKit
set_option linter.unusedVariables false
set_option linter.unusedSimpArgs false

theorem tmod_neg2 (x y : Nat) : Int.tmod (-(x : Int)) (-(y : Int)) = -((x % y : Nat) : Int) := by
  rw [Int.tmod_neg, Int.neg_tmod, tmod_nat]
theorem tdiv_neg1 (x y : Nat) : Int.tdiv (x : Int) (-(y : Int)) = -((x / y : Nat) : Int) := by
  rw [Int.tdiv_neg, tdiv_nat]
theorem tdiv_neg2 (x y : Nat) : Int.tdiv (-(x : Int)) (-(y : Int)) = ((x / y : Nat) : Int) := by
  rw [Int.tdiv_neg, Int.neg_tdiv, tdiv_nat, Int.neg_neg]

set_option maxRecDepth 100000 in
set_option maxHeartbeats 4000000 in
theorem rmake (num : Int) (d : Nat) (a b e : Int) (h0 : -9223372036854775808 < num) (h1 : num ≤ 9223372036854775807) (hd : 0 < d) (hd1 : d < 9223372036854775808) (hm : MakeIs num d a b e) (w : World) :
    Calls Try.prog 41 #[.int .i64 num, .int .i64 (d : Int)] w fun e' w' => e' = .returned (.tuple #[.agg #[.int .i64 a, .int .i64 b], .int .i64 e]) ∧ Below w.heap.size w w' := by
  unfold MakeIs at hm
  obtain ⟨N, hN⟩ : ∃ N, N = num.natAbs := ⟨_, rfl⟩
  rw [← hN] at hm
  obtain ⟨g, hg⟩ : ∃ g, g = Nat.gcd N d := ⟨_, rfl⟩
  have hg0 : 0 < g := by rw [hg]; exact Nat.gcd_pos_of_pos_right _ hd
  rw [← hg] at hm
  have b1 : N / g ≤ N := Nat.div_le_self _ _
  have b2 : d / g ≤ d := Nat.div_le_self _ _
  have q3 := tdiv_neg1 d g
  obtain ⟨n1, hn1⟩ : ∃ z : Int, z = if num < 0 then -((N / g : Nat) : Int) else ((N / g : Nat) : Int) := ⟨_, rfl⟩
  have q1 : Int.tdiv num (-(g : Int)) = -n1 := by
    by_cases hs : num < 0
    · rw [hn1, if_pos hs, show num = -(N : Int) by omega, tdiv_neg2, Int.neg_neg]
    · rw [hn1, if_neg hs, show num = (N : Int) by omega, tdiv_neg1]
  have hn1b : -(9223372036854775807 : Int) ≤ n1 ∧ n1 ≤ 9223372036854775807 := by
    rw [hn1]; clear hm q1 q3 hn1; generalize N / g = z at *; split <;> omega
  have hbig : (1073741824 < N / g) ↔ (n1 < -1073741824 ∨ 1073741824 < n1) := by
    rw [hn1]; clear hm q1 q3 hn1 hn1b; generalize N / g = z at *; split <;> omega
  obtain ⟨D, hD⟩ : ∃ n, n = d / g := ⟨_, rfl⟩
  have hD0 : 0 < D := by rw [hD, hg]; exact Nat.div_pos (Nat.gcd_le_right _ hd) (by omega)
  rw [← hn1] at hm
  rw [← hD] at q3 b2 hm
  have HM := Lib.hid hm
  have HBG := Lib.hid hbig
  obtain ⟨ga, hga⟩ : ∃ z, z = -(g : Int) := ⟨_, rfl⟩
  rw [← hga] at q1 q3
  obtain ⟨n0, hn0⟩ : ∃ z, z = -n1 := ⟨_, rfl⟩
  obtain ⟨D0, hD0'⟩ : ∃ z, z = -(D : Int) := ⟨_, rfl⟩
  rw [← hn0] at q1
  rw [← hD0'] at q3
  have e1 : IntKind.i64.wrap n0 = n0 := by rw [IntKind.wrap_i64]; omega
  have e2 : IntKind.i64.wrap (-n0) = n1 := by rw [IntKind.wrap_i64]; omega
  have e3 : IntKind.i64.wrap D0 = D0 := by rw [IntKind.wrap_i64]; omega
  have e4 : IntKind.i64.wrap (-D0) = (D : Int) := by rw [IntKind.wrap_i64]; omega
  have t1 : (ga == 0) = false := by simp <;> omega
  have t2 : ¬ ga = 0 := by omega
  have t3 : decide (D0 < 0) = true := decide_eq_true (by omega)
  have t4 : decide ((D : Int) < 1) = false := decide_eq_false (by omega)
  have t5 : ((d : Int) == 0) = false := by simp <;> omega
  have t6 : decide (0 < d) = true := decide_eq_true hd
  have t7 : decide (d = 0) = false := decide_eq_false (by omega)
  have t8 : ¬ d = 0 := by omega
  obtain ⟨na, hna⟩ : ∃ z, z = -(N : Int) := ⟨_, rfl⟩
  obtain ⟨nd, hnd⟩ : ∃ z, z = -(d : Int) := ⟨_, rfl⟩
  have e5 : IntKind.i64.wrap (-(d : Int)) = nd := by rw [IntKind.wrap_i64]; omega
  have HNA := Lib.hid hna
  have HND := Lib.hid hnd
  have HGA := Lib.hid hga
  have HG := Lib.hid hg
  have HB := Lib.hid (show N < 9223372036854775808 by omega)
  have HB2 := Lib.hid hd1
  have HBK : Hid (Blk (w.alloc (Obj.cells #[.int .i64 0, .int .i64 0] 30)) w.heap.size 30 #[.int .i64 0, .int .i64 0]) := Blk.new _ _ _
  by_cases hp : 0 < num
  · have p1 := decide_eq_true hp
    have e6 : IntKind.i64.wrap (-num) = na := by rw [IntKind.wrap_i64]; omega
    clear hp
    clear h0 h1 hd hd1 hm hg hg0 b1 b2 hn1 hn1b hbig hD hD0 hga hn0 hD0' hna hnd hN
    go_enter Try.func41, Try.ntmps41
    go_wp2_with fail
    go_loopw [6, 7] (fun u v wr => ∃ (x y : Nat) (p q : Int), Hid (GInv N d x y) ∧ Hid (p = -(x : Int)) ∧ Hid (q = -(y : Int)) ∧ u = .int .i64 p ∧ v = .int .i64 q ∧ Hid (Blk wr w.heap.size 30 #[.int .i64 0, .int .i64 0]) ∧ Hid (Below w.heap.size w wr)) (fun _ v _ => (intOf v).natAbs)
    case atStart => exact ⟨N, d, na, nd, ⟨rfl, by omega, by omega⟩, HNA, HND, rfl, rfl, HBK, (Below.refl _ _).alloc (Nat.le_refl _) _⟩
    case round =>
      obtain ⟨x, y, p, q, HI, HP, HQ, rfl, rfl, HK, HW⟩ := hrel
      by_cases hy : y = 0
      · subst hy
        have ex := ginv_end HI.out
        rw [← HG.out] at ex
        have ep : p = ga := by rw [HP.out, ex, HGA.out]
        have eq : q = 0 := by rw [HQ.out]; rfl
        subst ep
        subst eq
        have c0 := HK.out.cell 0
        have c1 := HK.out.cell 1
        have f0 := HK.out.frozen 0
        have f1 := HK.out.frozen 1
        simp only [List.getElem?_toArray, List.getElem?_cons_succ, List.getElem?_cons_zero] at c0 c1
        have lk := HK.out.lt
        clear ex
        by_cases hT1 : n1 < -1073741824
        · have T1 := decide_eq_true hT1
          have hE : Hid (a = 0 ∧ b = 0 ∧ e = 5) := by
            rcases HM.out with ⟨_, h⟩ | ⟨h, _⟩
            · exact h
            · have := HBG.out.2 (.inl hT1); omega
          obtain ⟨rfl, rfl, rfl⟩ := hE.out
          clear hT1 hE
          go_wp2_with fail
          refine bodyPost_ret (v := .tuple #[.agg #[.int .i64 0, .int .i64 0], .int .i64 5]) (by simp [results, Try.results41, go_sem, *]) rfl ⟨rfl, ?_⟩
          have := HW.out
          (repeat' (first | assumption | exact Below.refl _ _ | exact Below.size (by assumption) | (refine Below.setCell ?_ ?_ _) | (refine Below.alloc ?_ ?_ _) | (refine Below.drew ?_) | (refine below_drewN ?_ _) | (refine Below.trans ?_ (Below.mono ‹Below _ _ _› ?_)) | omega | (simp; done) | (simp; omega) | (simp at *; omega)))
        · have T1 := decide_eq_false hT1
          by_cases hT2 : 1073741824 < n1
          · have T2 := decide_eq_true hT2
            have hE : Hid (a = 0 ∧ b = 0 ∧ e = 5) := by
              rcases HM.out with ⟨_, h⟩ | ⟨h, _⟩
              · exact h
              · have := HBG.out.2 (.inr hT2); omega
            obtain ⟨rfl, rfl, rfl⟩ := hE.out
            clear hT1 hT2 hE
            go_wp2_with fail
            refine bodyPost_ret (v := .tuple #[.agg #[.int .i64 0, .int .i64 0], .int .i64 5]) (by simp [results, Try.results41, go_sem, *]) rfl ⟨rfl, ?_⟩
            have := HW.out
            (repeat' (first | assumption | exact Below.refl _ _ | exact Below.size (by assumption) | (refine Below.setCell ?_ ?_ _) | (refine Below.alloc ?_ ?_ _) | (refine Below.drew ?_) | (refine below_drewN ?_ _) | (refine Below.trans ?_ (Below.mono ‹Below _ _ _› ?_)) | omega | (simp; done) | (simp; omega) | (simp at *; omega)))
          · have T2 := decide_eq_false hT2
            by_cases hT4 : 1073741824 < D
            · have T4 : decide ((1073741824 : Int) < (D : Int)) = true := decide_eq_true (by omega)
              have T4' := decide_eq_true hT4
              have hE : Hid (a = 0 ∧ b = 0 ∧ e = 5) := by
                rcases HM.out with ⟨_, h⟩ | ⟨_, h, _⟩
                · exact h
                · omega
              obtain ⟨rfl, rfl, rfl⟩ := hE.out
              clear hT1 hT2 hT4 hE
              go_wp2_with fail
              refine bodyPost_ret (v := .tuple #[.agg #[.int .i64 0, .int .i64 0], .int .i64 5]) (by simp [results, Try.results41, go_sem, *]) rfl ⟨rfl, ?_⟩
              have := HW.out
              (repeat' (first | assumption | exact Below.refl _ _ | exact Below.size (by assumption) | (refine Below.setCell ?_ ?_ _) | (refine Below.alloc ?_ ?_ _) | (refine Below.drew ?_) | (refine below_drewN ?_ _) | (refine Below.trans ?_ (Below.mono ‹Below _ _ _› ?_)) | omega | (simp; done) | (simp; omega) | (simp at *; omega)))
            · have T4 : decide ((1073741824 : Int) < (D : Int)) = false := decide_eq_false (by omega)
              have T4' := decide_eq_false hT4
              have hE : Hid (a = n1 ∧ b = (D : Int) ∧ e = 0) := by
                rcases HM.out with ⟨h | h, _⟩ | ⟨_, _, h⟩
                · have := HBG.out.1 h; omega
                · omega
                · exact h
              obtain ⟨rfl, rfl, rfl⟩ := hE.out
              clear hT1 hT2 hT4 hE
              go_wp2_with fail
              refine bodyPost_ret (v := .tuple #[.agg #[.int .i64 a, .int .i64 (D : Int)], .int .i64 0]) (by simp [results, Try.results41, go_sem, *]) rfl ⟨rfl, ?_⟩
              have := HW.out
              (repeat' (first | assumption | exact Below.refl _ _ | exact Below.size (by assumption) | (refine Below.setCell ?_ ?_ _) | (refine Below.alloc ?_ ?_ _) | (refine Below.drew ?_) | (refine below_drewN ?_ _) | (refine Below.trans ?_ (Below.mono ‹Below _ _ _› ?_)) | omega | (simp; done) | (simp; omega) | (simp at *; omega)))
      · have u1 : (q == 0) = false := by have := HQ.out; simp <;> omega
        have u2 : ¬ q = 0 := by have := HQ.out; omega
        obtain ⟨k1, k2⟩ := ginv_step HI.out hy
        have m1 := tmod_neg2 x y
        rw [← HP.out, ← HQ.out] at m1
        obtain ⟨r, hr⟩ : ∃ z, z = x % y := ⟨_, rfl⟩
        rw [← hr] at k1 k2 m1
        obtain ⟨rr, hrr⟩ : ∃ z, z = -(r : Int) := ⟨_, rfl⟩
        rw [← hrr] at m1
        have b1 : r < 9223372036854775808 := by have := HB.out; have := HB2.out; have := k1.2.2; omega
        have m2 : IntKind.i64.wrap rr = rr := by rw [IntKind.wrap_i64]; omega
        have K1 := Lib.hid k1
        have HRR := Lib.hid hrr
        have HMS : Hid ((intOf (Value.int .i64 rr)).natAbs < (intOf (Value.int .i64 q)).natAbs) := by show _ < _; have := HQ.out; simp [intOf]; omega
        clear hr k1 k2 hy b1 hrr
        go_wp2_with fail
        go_quiet (fail)
        go_wp2_with fail
        go_roundw
        case rel => exact ⟨y, r, q, rr, K1, HQ, HRR, rfl, rfl, HK.out.drewN _, below_drewN HW.out _⟩
        case measure => exact HMS.out
  · have p1 := decide_eq_false hp
    have e6 : num = na := by omega
    subst e6
    clear hp
    clear h0 h1 hd hd1 hm hg hg0 b1 b2 hn1 hn1b hbig hD hD0 hga hn0 hD0' hna hnd hN
    go_enter Try.func41, Try.ntmps41
    go_wp2_with fail
    go_loopw [6, 7] (fun u v wr => ∃ (x y : Nat) (p q : Int), Hid (GInv N d x y) ∧ Hid (p = -(x : Int)) ∧ Hid (q = -(y : Int)) ∧ u = .int .i64 p ∧ v = .int .i64 q ∧ Hid (Blk wr w.heap.size 30 #[.int .i64 0, .int .i64 0]) ∧ Hid (Below w.heap.size w wr)) (fun _ v _ => (intOf v).natAbs)
    case atStart => exact ⟨N, d, num, nd, ⟨rfl, by omega, by omega⟩, HNA, HND, rfl, rfl, HBK, (Below.refl _ _).alloc (Nat.le_refl _) _⟩
    case round =>
      obtain ⟨x, y, p, q, HI, HP, HQ, rfl, rfl, HK, HW⟩ := hrel
      by_cases hy : y = 0
      · subst hy
        have ex := ginv_end HI.out
        rw [← HG.out] at ex
        have ep : p = ga := by rw [HP.out, ex, HGA.out]
        have eq : q = 0 := by rw [HQ.out]; rfl
        subst ep
        subst eq
        have c0 := HK.out.cell 0
        have c1 := HK.out.cell 1
        have f0 := HK.out.frozen 0
        have f1 := HK.out.frozen 1
        simp only [List.getElem?_toArray, List.getElem?_cons_succ, List.getElem?_cons_zero] at c0 c1
        have lk := HK.out.lt
        clear ex
        by_cases hT1 : n1 < -1073741824
        · have T1 := decide_eq_true hT1
          have hE : Hid (a = 0 ∧ b = 0 ∧ e = 5) := by
            rcases HM.out with ⟨_, h⟩ | ⟨h, _⟩
            · exact h
            · have := HBG.out.2 (.inl hT1); omega
          obtain ⟨rfl, rfl, rfl⟩ := hE.out
          clear hT1 hE
          go_wp2_with fail
          refine bodyPost_ret (v := .tuple #[.agg #[.int .i64 0, .int .i64 0], .int .i64 5]) (by simp [results, Try.results41, go_sem, *]) rfl ⟨rfl, ?_⟩
          have := HW.out
          (repeat' (first | assumption | exact Below.refl _ _ | exact Below.size (by assumption) | (refine Below.setCell ?_ ?_ _) | (refine Below.alloc ?_ ?_ _) | (refine Below.drew ?_) | (refine below_drewN ?_ _) | (refine Below.trans ?_ (Below.mono ‹Below _ _ _› ?_)) | omega | (simp; done) | (simp; omega) | (simp at *; omega)))
        · have T1 := decide_eq_false hT1
          by_cases hT2 : 1073741824 < n1
          · have T2 := decide_eq_true hT2
            have hE : Hid (a = 0 ∧ b = 0 ∧ e = 5) := by
              rcases HM.out with ⟨_, h⟩ | ⟨h, _⟩
              · exact h
              · have := HBG.out.2 (.inr hT2); omega
            obtain ⟨rfl, rfl, rfl⟩ := hE.out
            clear hT1 hT2 hE
            go_wp2_with fail
            refine bodyPost_ret (v := .tuple #[.agg #[.int .i64 0, .int .i64 0], .int .i64 5]) (by simp [results, Try.results41, go_sem, *]) rfl ⟨rfl, ?_⟩
            have := HW.out
            (repeat' (first | assumption | exact Below.refl _ _ | exact Below.size (by assumption) | (refine Below.setCell ?_ ?_ _) | (refine Below.alloc ?_ ?_ _) | (refine Below.drew ?_) | (refine below_drewN ?_ _) | (refine Below.trans ?_ (Below.mono ‹Below _ _ _› ?_)) | omega | (simp; done) | (simp; omega) | (simp at *; omega)))
          · have T2 := decide_eq_false hT2
            by_cases hT4 : 1073741824 < D
            · have T4 : decide ((1073741824 : Int) < (D : Int)) = true := decide_eq_true (by omega)
              have T4' := decide_eq_true hT4
              have hE : Hid (a = 0 ∧ b = 0 ∧ e = 5) := by
                rcases HM.out with ⟨_, h⟩ | ⟨_, h, _⟩
                · exact h
                · omega
              obtain ⟨rfl, rfl, rfl⟩ := hE.out
              clear hT1 hT2 hT4 hE
              go_wp2_with fail
              refine bodyPost_ret (v := .tuple #[.agg #[.int .i64 0, .int .i64 0], .int .i64 5]) (by simp [results, Try.results41, go_sem, *]) rfl ⟨rfl, ?_⟩
              have := HW.out
              (repeat' (first | assumption | exact Below.refl _ _ | exact Below.size (by assumption) | (refine Below.setCell ?_ ?_ _) | (refine Below.alloc ?_ ?_ _) | (refine Below.drew ?_) | (refine below_drewN ?_ _) | (refine Below.trans ?_ (Below.mono ‹Below _ _ _› ?_)) | omega | (simp; done) | (simp; omega) | (simp at *; omega)))
            · have T4 : decide ((1073741824 : Int) < (D : Int)) = false := decide_eq_false (by omega)
              have T4' := decide_eq_false hT4
              have hE : Hid (a = n1 ∧ b = (D : Int) ∧ e = 0) := by
                rcases HM.out with ⟨h | h, _⟩ | ⟨_, _, h⟩
                · have := HBG.out.1 h; omega
                · omega
                · exact h
              obtain ⟨rfl, rfl, rfl⟩ := hE.out
              clear hT1 hT2 hT4 hE
              go_wp2_with fail
              refine bodyPost_ret (v := .tuple #[.agg #[.int .i64 a, .int .i64 (D : Int)], .int .i64 0]) (by simp [results, Try.results41, go_sem, *]) rfl ⟨rfl, ?_⟩
              have := HW.out
              (repeat' (first | assumption | exact Below.refl _ _ | exact Below.size (by assumption) | (refine Below.setCell ?_ ?_ _) | (refine Below.alloc ?_ ?_ _) | (refine Below.drew ?_) | (refine below_drewN ?_ _) | (refine Below.trans ?_ (Below.mono ‹Below _ _ _› ?_)) | omega | (simp; done) | (simp; omega) | (simp at *; omega)))
      · have u1 : (q == 0) = false := by have := HQ.out; simp <;> omega
        have u2 : ¬ q = 0 := by have := HQ.out; omega
        obtain ⟨k1, k2⟩ := ginv_step HI.out hy
        have m1 := tmod_neg2 x y
        rw [← HP.out, ← HQ.out] at m1
        obtain ⟨r, hr⟩ : ∃ z, z = x % y := ⟨_, rfl⟩
        rw [← hr] at k1 k2 m1
        obtain ⟨rr, hrr⟩ : ∃ z, z = -(r : Int) := ⟨_, rfl⟩
        rw [← hrr] at m1
        have b1 : r < 9223372036854775808 := by have := HB.out; have := HB2.out; have := k1.2.2; omega
        have m2 : IntKind.i64.wrap rr = rr := by rw [IntKind.wrap_i64]; omega
        have K1 := Lib.hid k1
        have HRR := Lib.hid hrr
        have HMS : Hid ((intOf (Value.int .i64 rr)).natAbs < (intOf (Value.int .i64 q)).natAbs) := by show _ < _; have := HQ.out; simp [intOf]; omega
        clear hr k1 k2 hy b1 hrr
        go_wp2_with fail
        go_quiet (fail)
        go_wp2_with fail
        go_roundw
        case rel => exact ⟨y, r, q, rr, K1, HQ, HRR, rfl, rfl, HK.out.drewN _, below_drewN HW.out _⟩
        case measure => exact HMS.out
end Go.Proofs.Ytpeelnjkppdkbaa

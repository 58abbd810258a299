/- The value of a table as a fraction, by the reference. -/
import Derived.Test.YtpeelnjkppdkbaaRefO
import Derived.Test.YtpeelnjkppdkbaaAt
namespace Go.Proofs.Ytpeelnjkppdkbaa
open Go.RowKit
set_option linter.unusedVariables false
set_option linter.unusedSimpArgs false

set_option maxRecDepth 100000 in
set_option maxHeartbeats 4000000 in
theorem rat (b off m c d r : Nat) (X Y : Nat → Int) (x n1 n2 ee : Int) (hv : TabOK (m + 1) X Y) (w : World) (ht : TabAt w b off (m + 1) X Y)
    (hd : 0 < d) (hd2 : d ≤ 2251799813685248) (hr : Val.rst X Y m x = (r : Int)) (hrd : r < d) (hA : AtIs (Val.val X Y m x) r d n1 n2 ee)
    (hP : ∀ w, TabAt w b off (m + 1) X Y → Calls Try.prog 40 #[.slice (some ⟨b, off, none⟩) (m + 1 : Nat) c, .int .i64 x] w fun e w' => e = .returned (.tuple #[.int .i64 (Val.val X Y m x), .int .i64 (Val.rst X Y m x), .int .i64 (d : Int)]) ∧ Below w.heap.size w w') :
    Calls Try.prog 17 #[.slice (some ⟨b, off, none⟩) (m + 1 : Nat) c, .int .i64 x] w fun e w' => e = .returned (.tuple #[.agg #[.int .i64 n1, .int .i64 n2], .int .i64 ee]) ∧ Below w.heap.size w w' := by
  have HT := Lib.hid ht
  have hb := ht.1
  have ha := asc_of hv
  have g1 := Val.val_ge (x := x) ha
  have g2 := Val.val_le (x := x) ha
  have g3 := in_of hv (by omega : 0 < m + 1)
  have g4 := in_of hv (by omega : m < m + 1)
  rw [hr] at hP
  obtain ⟨q, hq⟩ : ∃ v, v = Val.val X Y m x := ⟨_, rfl⟩
  rw [← hq] at hP hA g1 g2
  have SP := Lib.hid hP
  obtain ⟨g, hg⟩ : ∃ g, g = Nat.gcd d r := ⟨_, rfl⟩
  have hg0 : 0 < g := by rw [hg]; exact Nat.gcd_pos_of_pos_left _ hd
  unfold AtIs at hA
  rw [← hg] at hA
  have q1 := tdiv_nat r g
  have q2 := tdiv_nat d g
  have b1 : r / g ≤ r := Nat.div_le_self _ _
  have b2 : d / g ≤ d := Nat.div_le_self _ _
  have b3 : 0 < d / g := by rw [hg]; exact Nat.div_pos (Nat.gcd_le_left _ hd) (by omega)
  obtain ⟨R, hR⟩ : ∃ n, n = r / g := ⟨_, rfl⟩
  obtain ⟨D, hD⟩ : ∃ n, n = d / g := ⟨_, rfl⟩
  rw [← hR] at q1 b1 hA
  rw [← hD] at q2 b2 b3 hA
  have t1 : ((g : Int) == 0) = false := by simp <;> omega
  have t2 : ¬ (g : Int) = 0 := by omega
  have e1 : IntKind.i64.wrap (R : Int) = (R : Int) := by rw [IntKind.wrap_i64]; omega
  have e2 : IntKind.i64.wrap (D : Int) = (D : Int) := by rw [IntKind.wrap_i64]; omega
  have HB := Lib.hid (And.intro b2 (And.intro b1 (And.intro hrd hd2)))
  have HV3 := Lib.hid b3
  have HG := Lib.hid hg
  have HAA := Lib.hid hA
  clear hv ht hq g1 g2 g3 g4 hP hR hD b1 b2 b3 hg hg0 hd hd2 hrd hr ha hA
  go_enter Try.func17, Try.ntmps17
  go_upto_region 2 with (first | (go_at_call 40; (with_reducible refine (SP.out _ ?_).mono ?_); (focus (exact HT.out.below (by (repeat' (first | assumption | exact Below.refl _ _ | exact Below.size (by assumption) | (refine Below.setCell ?_ ?_ _) | (refine Below.alloc ?_ ?_ _) | (refine Below.drew ?_) | (refine below_drewN ?_ _) | (refine Below.trans ?_ (Below.mono ‹Below _ _ _› ?_)) | omega | (simp; done) | (simp; omega) | (simp at *; omega)))) hb)); rintro e w1 ⟨rfl, hb1⟩; obtain ⟨hc1, hf1⟩ := bcell hb1; have hz1 := hb1.size; (try simp at hz1); (try simp only [heap_drew, World.heap_drewN] at hz1); (try simp only [heap_drew, World.heap_drewN] at hc1); (try simp only [heap_drew, World.heap_drewN] at hf1); (try have hs1 := Nat.lt_of_succ_le hz1); (try have hs2 := Nat.lt_of_succ_lt hs1); (try have y0 : w.heap.size < w1.heap.size := by omega); (try have y1 : w.heap.size + 1 < w1.heap.size := by omega); (try have y2 : w.heap.size + 2 < w1.heap.size := by omega)))
  have hK1 : Blk w1 w.heap.size 30 #[.int .i64 0, .int .i64 0] := (Blk.new w _ _).below hb1 (by simp)
  have hbW : Below w.heap.size w w1 := by (repeat' (first | assumption | exact Below.refl _ _ | exact Below.size (by assumption) | (refine Below.setCell ?_ ?_ _) | (refine Below.alloc ?_ ?_ _) | (refine Below.drew ?_) | (refine below_drewN ?_ _) | (refine Below.trans ?_ (Below.mono ‹Below _ _ _› ?_)) | omega | (simp; done) | (simp; omega) | (simp at *; omega)))
  have HK1 := Lib.hid hK1
  have HBW := Lib.hid hbW
  clear hK1 hbW hc1 hf1 hb1
  go_wp2_with fail
  go_loopw [9, 10] (fun u v wr => ∃ x y : Nat, Hid (GInv d r x y) ∧ u = .int .i64 x ∧ v = .int .i64 y ∧ Hid (Blk wr w.heap.size 30 #[.int .i64 0, .int .i64 0]) ∧ Hid (Below w.heap.size w wr)) (fun _ v _ => (intOf v).toNat)
  case atStart => exact ⟨d, r, ⟨rfl, by omega, by omega⟩, rfl, rfl, HK1, HBW⟩
  case round =>
    obtain ⟨x, y, HI, rfl, rfl, HK, HW⟩ := hrel
    by_cases hy : y = 0
    · subst hy
      have ex := ginv_end HI.out
      rw [← HG.out] at ex
      subst ex
      have c0 := HK.out.cell 0
      have c1 := HK.out.cell 1
      have f0 := HK.out.frozen 0
      have f1 := HK.out.frozen 1
      simp only [List.getElem?_toArray, List.getElem?_cons_succ, List.getElem?_cons_zero] at c0 c1
      have lk := HK.out.lt
      by_cases hD1 : 1073741824 < D
      · have T1 : decide ((1073741824 : Int) < (D : Int)) = true := decide_eq_true (by omega)
        have T1' := decide_eq_true hD1
        have hE : Hid (n1 = 0 ∧ n2 = 0 ∧ ee = 5) := by
          rcases HAA.out with ⟨_, h⟩ | ⟨h, _⟩
          · exact h
          · omega
        obtain ⟨rfl, rfl, rfl⟩ := hE.out
        clear hD1 hE
        go_wp2_with fail
        refine bodyPost_ret (v := .tuple #[.agg #[.int .i64 0, .int .i64 0], .int .i64 5]) (by simp [results, Try.results17, go_sem, *]) rfl ⟨rfl, ?_⟩
        have := HW.out
        (repeat' (first | assumption | exact Below.refl _ _ | exact Below.size (by assumption) | (refine Below.setCell ?_ ?_ _) | (refine Below.alloc ?_ ?_ _) | (refine Below.drew ?_) | (refine below_drewN ?_ _) | (refine Below.trans ?_ (Below.mono ‹Below _ _ _› ?_)) | omega | (simp; done) | (simp; omega) | (simp at *; omega)))
      · have T1 : decide ((1073741824 : Int) < (D : Int)) = false := decide_eq_false (by omega)
        have T1' := decide_eq_false hD1
        by_cases hq2 : q < -1073741825
        · have T2 := decide_eq_true hq2
          have hE : Hid (n1 = 0 ∧ n2 = 0 ∧ ee = 5) := by
            rcases HAA.out with ⟨_, h⟩ | ⟨_, _, h, _⟩
            · exact h
            · omega
          obtain ⟨rfl, rfl, rfl⟩ := hE.out
          clear hD1 hq2 hE
          go_wp2_with fail
          refine bodyPost_ret (v := .tuple #[.agg #[.int .i64 0, .int .i64 0], .int .i64 5]) (by simp [results, Try.results17, go_sem, *]) rfl ⟨rfl, ?_⟩
          have := HW.out
          (repeat' (first | assumption | exact Below.refl _ _ | exact Below.size (by assumption) | (refine Below.setCell ?_ ?_ _) | (refine Below.alloc ?_ ?_ _) | (refine Below.drew ?_) | (refine below_drewN ?_ _) | (refine Below.trans ?_ (Below.mono ‹Below _ _ _› ?_)) | omega | (simp; done) | (simp; omega) | (simp at *; omega)))
        · have T2 := decide_eq_false hq2
          by_cases hq1 : 1073741824 < q
          · have T3 := decide_eq_true hq1
            have hE : Hid (n1 = 0 ∧ n2 = 0 ∧ ee = 5) := by
              rcases HAA.out with ⟨_, h⟩ | ⟨_, h, _⟩
              · exact h
              · omega
            obtain ⟨rfl, rfl, rfl⟩ := hE.out
            clear hD1 hq2 hq1 hE
            go_wp2_with fail
            refine bodyPost_ret (v := .tuple #[.agg #[.int .i64 0, .int .i64 0], .int .i64 5]) (by simp [results, Try.results17, go_sem, *]) rfl ⟨rfl, ?_⟩
            have := HW.out
            (repeat' (first | assumption | exact Below.refl _ _ | exact Below.size (by assumption) | (refine Below.setCell ?_ ?_ _) | (refine Below.alloc ?_ ?_ _) | (refine Below.drew ?_) | (refine below_drewN ?_ _) | (refine Below.trans ?_ (Below.mono ‹Below _ _ _› ?_)) | omega | (simp; done) | (simp; omega) | (simp at *; omega)))
          · have T3 := decide_eq_false hq1
            have hM : MakeIs (q * (D : Int) + (R : Int)) D n1 n2 ee := by
              rcases HAA.out with ⟨h | h | h, _⟩ | ⟨_, _, _, h⟩
              · omega
              · omega
              · omega
              · exact h
            have hmb := mul_bounds (show q ≤ 1073741824 by omega) (show -1073741825 ≤ q by omega) (show D ≤ 1073741824 by omega)
            obtain ⟨P, hP⟩ : ∃ z, z = q * (D : Int) := ⟨_, rfl⟩
            rw [← hP] at hmb hM
            have hR1 : R ≤ 2251799813685248 := by have := HB.out; omega
            have e3 : IntKind.i64.wrap (q * (D : Int)) = P := by rw [← hP, IntKind.wrap_i64]; omega
            obtain ⟨M, hMM⟩ : ∃ z, z = P + (R : Int) := ⟨_, rfl⟩
            have e4 : IntKind.i64.wrap (P + (R : Int)) = M := by rw [← hMM, IntKind.wrap_i64]; omega
            rw [← hMM] at hM
            have SM := Lib.hid fun w => rmake M D n1 n2 ee (by omega) (by omega) HV3.out (by omega) hM w
            clear hM hmb hP hMM hR1 hD1 hq1 hq2
            go_wp2_with (first | (go_at_call 41; (with_reducible refine (SM.out _).mono ?_); rintro e w3 ⟨rfl, hb3⟩; obtain ⟨hc3, hf3⟩ := bcell hb3; have hz3 := hb3.size; (try simp at hz3); (try simp only [heap_drew, World.heap_drewN] at hz3); (try simp only [heap_drew, World.heap_drewN] at hc3); (try simp only [heap_drew, World.heap_drewN] at hf3); (try have hs1 := Nat.lt_of_succ_le hz3); (try have hs2 := Nat.lt_of_succ_lt hs1); (try have y0 : w.heap.size < w3.heap.size := by omega); (try have y1 : w.heap.size + 1 < w3.heap.size := by omega); (try have y2 : w.heap.size + 2 < w3.heap.size := by omega)))
            refine bodyPost_ret (v := .tuple #[.agg #[.int .i64 n1, .int .i64 n2], .int .i64 ee]) (by simp [results, Try.results17, go_sem, *]) rfl ⟨rfl, ?_⟩
            have := HW.out
            (repeat' (first | assumption | exact Below.refl _ _ | exact Below.size (by assumption) | (refine Below.setCell ?_ ?_ _) | (refine Below.alloc ?_ ?_ _) | (refine Below.drew ?_) | (refine below_drewN ?_ _) | (refine Below.trans ?_ (Below.mono ‹Below _ _ _› ?_)) | omega | (simp; done) | (simp; omega) | (simp at *; omega)))
    · have u1 : ((y : Int) == 0) = false := by simp <;> omega
      have u2 : ¬ (y : Int) = 0 := by omega
      obtain ⟨k1, k2⟩ := ginv_step HI.out hy
      have m1 := tmod_nat x y
      obtain ⟨s, hs⟩ : ∃ z, z = x % y := ⟨_, rfl⟩
      rw [← hs] at k1 k2 m1
      have b1 : s < 9223372036854775808 := by have := HB.out; have := k1.2.2; omega
      have m2 : IntKind.i64.wrap (s : Int) = (s : Int) := by rw [IntKind.wrap_i64]; omega
      have K1 := Lib.hid k1
      have HMS : Hid ((intOf (Value.int .i64 (s : Int))).toNat < (intOf (Value.int .i64 (y : Int))).toNat) := by show _ < _; simp [intOf]; omega
      clear hs k1 k2 hy b1
      go_wp2_with fail
      go_quiet (fail)
      go_wp2_with fail
      go_roundw
      case rel => exact ⟨y, s, K1, rfl, rfl, HK.out.drewN _, below_drewN HW.out _⟩
      case measure => exact HMS.out
end Go.Proofs.Ytpeelnjkppdkbaa

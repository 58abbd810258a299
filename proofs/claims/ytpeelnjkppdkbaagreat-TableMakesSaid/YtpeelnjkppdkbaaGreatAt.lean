/- The value of a table as a fraction, by the package. -/
import Derived.Test.YtpeelnjkppdkbaaGreatFrac
import Derived.Test.YtpeelnjkppdkbaaGreatMake
namespace Go.Proofs.YtpeelnjkppdkbaaGreat
open Go.RowKit
set_option linter.unusedVariables false
set_option linter.unusedSimpArgs false

/-- What At answers, of the integer below the value, the rest and its denominator. -/
def AtIs (q : Int) (r d : Nat) (a b e : Int) : Prop :=
  ((1073741824 < d / Nat.gcd d r ∨ 1073741824 < q ∨ q < -1073741825) ∧ a = 0 ∧ b = 0 ∧ e = 5) ∨
  (d / Nat.gcd d r ≤ 1073741824 ∧ q ≤ 1073741824 ∧ -1073741825 ≤ q ∧ MakeIs (q * ((d / Nat.gcd d r : Nat) : Int) + ((r / Nat.gcd d r : Nat) : Int)) (d / Nat.gcd d r) a b e)
theorem atIs_ex (q : Int) (r d : Nat) : ∃ a b e, AtIs q r d a b e := by
  by_cases h : 1073741824 < d / Nat.gcd d r ∨ 1073741824 < q ∨ q < -1073741825
  · exact ⟨0, 0, 5, .inl ⟨h, rfl, rfl, rfl⟩⟩
  · obtain ⟨a, b, e, hm⟩ := makeIs_ex (q * ((d / Nat.gcd d r : Nat) : Int) + ((r / Nat.gcd d r : Nat) : Int)) (d / Nat.gcd d r)
    exact ⟨a, b, e, .inr ⟨by omega, by omega, by omega, hm⟩⟩
/-- With no rest the denominator does not matter. -/
theorem atIs_den {q : Int} {r d d' : Nat} {a b e : Int} (hd : 0 < d) (hd' : 0 < d') (h : r ≠ 0 → d = d') (hA : AtIs q r d a b e) : AtIs q r d' a b e := by
  by_cases h0 : r = 0
  · subst h0
    unfold AtIs at hA ⊢
    rw [Nat.gcd_zero_right, Nat.div_self hd, Nat.zero_div] at hA
    rw [Nat.gcd_zero_right, Nat.div_self hd', Nat.zero_div]
    exact hA
  · rw [← h h0]; exact hA
theorem mul_bounds {q : Int} {D : Nat} (h1 : q ≤ 1073741824) (h2 : -1073741825 ≤ q) (hD : D ≤ 1073741824) : -1152921506000000000 ≤ q * (D : Int) ∧ q * (D : Int) ≤ 1152921506000000000 := by
  have a := Int.mul_le_mul_of_nonneg_right h1 (by omega : (0 : Int) ≤ (D : Int))
  have b := Int.mul_le_mul_of_nonneg_right h2 (by omega : (0 : Int) ≤ (D : Int))
  omega

set_option maxHeartbeats 2000000 in
theorem tat (b off m c d r : Nat) (X Y : Nat → Int) (x n1 n2 ee : Int) (hv : TabOK (m + 1) X Y) (w : World) (ht : TabAt w b off (m + 1) X Y)
    (hd : 0 < d) (hd2 : d ≤ 2251799813685248) (hr : Val.rst X Y m x = (r : Int)) (hrd : r < d) (hA : AtIs (Val.val X Y m x) r d n1 n2 ee)
    (hP : ∀ w, TabAt w b off (m + 1) X Y → Calls Tryz.prog 23 #[.slice (some ⟨b, off, none⟩) (m + 1 : Nat) c, .int .i64 x] w fun e w' => e = .returned (.tuple #[.int .i64 (Val.val X Y m x), .int .i64 (Val.rst X Y m x), .int .i64 (d : Int)]) ∧ Below w.heap.size w w') :
    Calls Tryz.prog 14 #[.slice (some ⟨b, off, none⟩) (m + 1 : Nat) c, .int .i64 x] w fun e w' => e = .returned (.tuple #[.agg #[.int .i64 n1, .int .i64 n2], .int .i64 ee]) ∧ Below w.heap.size w w' := by
  have S0 := Lib.hid fun w ht => tvalid b off (m + 1) c X Y w hv.1 hv.2.1 ht
  have tv := tabB_true hv
  have HT := Lib.hid ht
  have hb := ht.1
  have ha := asc_of hv
  have g1 := Val.val_ge (x := x) ha
  have g2 := Val.val_le (x := x) ha
  have g3 := in_of hv (by omega : 0 < m + 1)
  have g4 := in_of hv (by omega : m < m + 1)
  rw [hr] at hP
  obtain ⟨q, hq⟩ : ∃ v, v = Val.val X Y m x := ⟨_, rfl⟩
  rw [← hq] at hP hA g1 g2
  have SP := Lib.hid hP
  obtain ⟨g, hg⟩ : ∃ g, g = Nat.gcd d r := ⟨_, rfl⟩
  have hg0 : 0 < g := by rw [hg]; exact Nat.gcd_pos_of_pos_left _ hd
  have SG := Lib.hid fun w => tgcd d r g (by omega) (by omega) hg w
  unfold AtIs at hA
  rw [← hg] at hA
  have q1 := tdiv_nat r g
  have q2 := tdiv_nat d g
  have b1 : r / g ≤ r := Nat.div_le_self _ _
  have b2 : d / g ≤ d := Nat.div_le_self _ _
  have b3 : 0 < d / g := by rw [hg]; exact Nat.div_pos (Nat.gcd_le_left _ hd) (by omega)
  obtain ⟨R, hR⟩ : ∃ n, n = r / g := ⟨_, rfl⟩
  obtain ⟨D, hD⟩ : ∃ n, n = d / g := ⟨_, rfl⟩
  rw [← hR] at q1 b1 hA
  rw [← hD] at q2 b2 b3 hA
  have t1 : ((g : Int) == 0) = false := by simp <;> omega
  have t2 : ¬ (g : Int) = 0 := by omega
  have e1 : IntKind.i64.wrap (R : Int) = (R : Int) := by rw [IntKind.wrap_i64]; omega
  have e2 : IntKind.i64.wrap (D : Int) = (D : Int) := by rw [IntKind.wrap_i64]; omega
  have HB := Lib.hid (And.intro b2 (And.intro b1 (And.intro hrd hd2)))
  have HQ := Lib.hid (And.intro g1 (And.intro g2 (And.intro g3 g4)))
  have HV3 := Lib.hid b3
  clear hv ht hq g1 g2 g3 g4 hP hR hD b1 b2 b3 hg hg0 hd hd2 hrd hr ha
  rcases hA with ⟨hbig, rfl, rfl, rfl⟩ | ⟨hD1, hq1, hq2, hM⟩
  · by_cases hD1 : 1073741824 < D
    · have T := decide_eq_true (show (1073741824 : Int) < (D : Int) by omega)
      clear hbig hD1
      go_enter Tryz.func14, Tryz.ntmps14
      go_wp2_with (first | (go_at_call 19; (with_reducible refine (S0.out _ ?_).mono ?_); (focus (exact HT.out.below (by (repeat' (first | assumption | exact Below.refl _ _ | exact Below.size (by assumption) | (refine Below.setCell ?_ ?_ _) | (refine Below.alloc ?_ ?_ _) | (refine Below.drew ?_) | (refine below_drewN ?_ _) | (refine Below.trans ?_ (Below.mono ‹Below _ _ _› ?_)) | omega | (simp; done) | (simp; omega) | (simp at *; omega)))) hb)); rintro e w1 ⟨rfl, hb1⟩; obtain ⟨hc1, hf1⟩ := bcell hb1; have hz1 := hb1.size; (try simp at hz1); (try simp only [heap_drew, World.heap_drewN] at hz1); (try simp only [heap_drew, World.heap_drewN] at hc1); (try simp only [heap_drew, World.heap_drewN] at hf1); (try have hs1 := Nat.lt_of_succ_le hz1); (try have hs2 := Nat.lt_of_succ_lt hs1); (try have y0 : w.heap.size < w1.heap.size := by omega); (try have y1 : w.heap.size + 1 < w1.heap.size := by omega); (try have y2 : w.heap.size + 2 < w1.heap.size := by omega)) | (go_at_call 23; (with_reducible refine (SP.out _ ?_).mono ?_); (focus (exact HT.out.below (by (repeat' (first | assumption | exact Below.refl _ _ | exact Below.size (by assumption) | (refine Below.setCell ?_ ?_ _) | (refine Below.alloc ?_ ?_ _) | (refine Below.drew ?_) | (refine below_drewN ?_ _) | (refine Below.trans ?_ (Below.mono ‹Below _ _ _› ?_)) | omega | (simp; done) | (simp; omega) | (simp at *; omega)))) hb)); rintro e w1 ⟨rfl, hb1⟩; obtain ⟨hc1, hf1⟩ := bcell hb1; have hz1 := hb1.size; (try simp at hz1); (try simp only [heap_drew, World.heap_drewN] at hz1); (try simp only [heap_drew, World.heap_drewN] at hc1); (try simp only [heap_drew, World.heap_drewN] at hf1); (try have hs1 := Nat.lt_of_succ_le hz1); (try have hs2 := Nat.lt_of_succ_lt hs1); (try have y0 : w.heap.size < w1.heap.size := by omega); (try have y1 : w.heap.size + 1 < w1.heap.size := by omega); (try have y2 : w.heap.size + 2 < w1.heap.size := by omega)) | (go_at_call 32; (with_reducible refine (SG.out _).mono ?_); rintro e w1 ⟨rfl, hb1⟩; obtain ⟨hc1, hf1⟩ := bcell hb1; have hz1 := hb1.size; (try simp at hz1); (try simp only [heap_drew, World.heap_drewN] at hz1); (try simp only [heap_drew, World.heap_drewN] at hc1); (try simp only [heap_drew, World.heap_drewN] at hf1); (try have hs1 := Nat.lt_of_succ_le hz1); (try have hs2 := Nat.lt_of_succ_lt hs1); (try have y0 : w.heap.size < w1.heap.size := by omega); (try have y1 : w.heap.size + 1 < w1.heap.size := by omega); (try have y2 : w.heap.size + 2 < w1.heap.size := by omega)))
      go_quiet (fail)
      have c0 : (w1.drewN nq).cell? ⟨w.heap.size, 0, none⟩ = some (.int .i64 0) := by simp [go_sem, *]
      have c1 : (w1.drewN nq).cell? ⟨w.heap.size, 1, none⟩ = some (.int .i64 0) := by simp [go_sem, *]
      have f0 : (w1.drewN nq).frozen? ⟨w.heap.size, 0, none⟩ = false := by simp [go_sem, *]
      have f1 : (w1.drewN nq).frozen? ⟨w.heap.size, 1, none⟩ = false := by simp [go_sem, *]
      have hbq : Below w.heap.size w (w1.drewN nq) := by (repeat' (first | assumption | exact Below.refl _ _ | exact Below.size (by assumption) | (refine Below.setCell ?_ ?_ _) | (refine Below.alloc ?_ ?_ _) | (refine Below.drew ?_) | (refine below_drewN ?_ _) | (refine Below.trans ?_ (Below.mono ‹Below _ _ _› ?_)) | omega | (simp; done) | (simp; omega) | (simp at *; omega)))
      have hsq : w.heap.size < (w1.drewN nq).heap.size := by simp <;> omega
      generalize w1.drewN nq = w2 at c0 c1 f0 f1 hbq hsq ⊢
      clear hc1 hf1 hb1
      go_wp2_with fail
      refine bodyPost_ret (v := .tuple #[.agg #[.int .i64 0, .int .i64 0], .int .i64 5]) (by simp [results, Tryz.results14, go_sem, *]) rfl ⟨rfl, ?_⟩
      (repeat' (first | assumption | exact Below.refl _ _ | exact Below.size (by assumption) | (refine Below.setCell ?_ ?_ _) | (refine Below.alloc ?_ ?_ _) | (refine Below.drew ?_) | (refine below_drewN ?_ _) | (refine Below.trans ?_ (Below.mono ‹Below _ _ _› ?_)) | omega | (simp; done) | (simp; omega) | (simp at *; omega)))
    · by_cases hq1 : 1073741824 < q
      · have T := decide_eq_false (show ¬ (1073741824 : Int) < (D : Int) by omega)
        have T2 := decide_eq_true hq1
        clear hbig hD1 hq1
        go_enter Tryz.func14, Tryz.ntmps14
        go_wp2_with (first | (go_at_call 19; (with_reducible refine (S0.out _ ?_).mono ?_); (focus (exact HT.out.below (by (repeat' (first | assumption | exact Below.refl _ _ | exact Below.size (by assumption) | (refine Below.setCell ?_ ?_ _) | (refine Below.alloc ?_ ?_ _) | (refine Below.drew ?_) | (refine below_drewN ?_ _) | (refine Below.trans ?_ (Below.mono ‹Below _ _ _› ?_)) | omega | (simp; done) | (simp; omega) | (simp at *; omega)))) hb)); rintro e w1 ⟨rfl, hb1⟩; obtain ⟨hc1, hf1⟩ := bcell hb1; have hz1 := hb1.size; (try simp at hz1); (try simp only [heap_drew, World.heap_drewN] at hz1); (try simp only [heap_drew, World.heap_drewN] at hc1); (try simp only [heap_drew, World.heap_drewN] at hf1); (try have hs1 := Nat.lt_of_succ_le hz1); (try have hs2 := Nat.lt_of_succ_lt hs1); (try have y0 : w.heap.size < w1.heap.size := by omega); (try have y1 : w.heap.size + 1 < w1.heap.size := by omega); (try have y2 : w.heap.size + 2 < w1.heap.size := by omega)) | (go_at_call 23; (with_reducible refine (SP.out _ ?_).mono ?_); (focus (exact HT.out.below (by (repeat' (first | assumption | exact Below.refl _ _ | exact Below.size (by assumption) | (refine Below.setCell ?_ ?_ _) | (refine Below.alloc ?_ ?_ _) | (refine Below.drew ?_) | (refine below_drewN ?_ _) | (refine Below.trans ?_ (Below.mono ‹Below _ _ _› ?_)) | omega | (simp; done) | (simp; omega) | (simp at *; omega)))) hb)); rintro e w1 ⟨rfl, hb1⟩; obtain ⟨hc1, hf1⟩ := bcell hb1; have hz1 := hb1.size; (try simp at hz1); (try simp only [heap_drew, World.heap_drewN] at hz1); (try simp only [heap_drew, World.heap_drewN] at hc1); (try simp only [heap_drew, World.heap_drewN] at hf1); (try have hs1 := Nat.lt_of_succ_le hz1); (try have hs2 := Nat.lt_of_succ_lt hs1); (try have y0 : w.heap.size < w1.heap.size := by omega); (try have y1 : w.heap.size + 1 < w1.heap.size := by omega); (try have y2 : w.heap.size + 2 < w1.heap.size := by omega)) | (go_at_call 32; (with_reducible refine (SG.out _).mono ?_); rintro e w1 ⟨rfl, hb1⟩; obtain ⟨hc1, hf1⟩ := bcell hb1; have hz1 := hb1.size; (try simp at hz1); (try simp only [heap_drew, World.heap_drewN] at hz1); (try simp only [heap_drew, World.heap_drewN] at hc1); (try simp only [heap_drew, World.heap_drewN] at hf1); (try have hs1 := Nat.lt_of_succ_le hz1); (try have hs2 := Nat.lt_of_succ_lt hs1); (try have y0 : w.heap.size < w1.heap.size := by omega); (try have y1 : w.heap.size + 1 < w1.heap.size := by omega); (try have y2 : w.heap.size + 2 < w1.heap.size := by omega)))
        go_quiet (fail)
        have c0 : (w1.drewN nq).cell? ⟨w.heap.size, 0, none⟩ = some (.int .i64 0) := by simp [go_sem, *]
        have c1 : (w1.drewN nq).cell? ⟨w.heap.size, 1, none⟩ = some (.int .i64 0) := by simp [go_sem, *]
        have f0 : (w1.drewN nq).frozen? ⟨w.heap.size, 0, none⟩ = false := by simp [go_sem, *]
        have f1 : (w1.drewN nq).frozen? ⟨w.heap.size, 1, none⟩ = false := by simp [go_sem, *]
        have hbq : Below w.heap.size w (w1.drewN nq) := by (repeat' (first | assumption | exact Below.refl _ _ | exact Below.size (by assumption) | (refine Below.setCell ?_ ?_ _) | (refine Below.alloc ?_ ?_ _) | (refine Below.drew ?_) | (refine below_drewN ?_ _) | (refine Below.trans ?_ (Below.mono ‹Below _ _ _› ?_)) | omega | (simp; done) | (simp; omega) | (simp at *; omega)))
        have hsq : w.heap.size < (w1.drewN nq).heap.size := by simp <;> omega
        generalize w1.drewN nq = w2 at c0 c1 f0 f1 hbq hsq ⊢
        clear hc1 hf1 hb1
        go_wp2_with fail
        refine bodyPost_ret (v := .tuple #[.agg #[.int .i64 0, .int .i64 0], .int .i64 5]) (by simp [results, Tryz.results14, go_sem, *]) rfl ⟨rfl, ?_⟩
        (repeat' (first | assumption | exact Below.refl _ _ | exact Below.size (by assumption) | (refine Below.setCell ?_ ?_ _) | (refine Below.alloc ?_ ?_ _) | (refine Below.drew ?_) | (refine below_drewN ?_ _) | (refine Below.trans ?_ (Below.mono ‹Below _ _ _› ?_)) | omega | (simp; done) | (simp; omega) | (simp at *; omega)))
      · have T := decide_eq_false (show ¬ (1073741824 : Int) < (D : Int) by omega)
        have T2 := decide_eq_false hq1
        have T3 : decide (q < -1073741825) = true := decide_eq_true (by omega)
        clear hbig hD1 hq1
        go_enter Tryz.func14, Tryz.ntmps14
        go_wp2_with (first | (go_at_call 19; (with_reducible refine (S0.out _ ?_).mono ?_); (focus (exact HT.out.below (by (repeat' (first | assumption | exact Below.refl _ _ | exact Below.size (by assumption) | (refine Below.setCell ?_ ?_ _) | (refine Below.alloc ?_ ?_ _) | (refine Below.drew ?_) | (refine below_drewN ?_ _) | (refine Below.trans ?_ (Below.mono ‹Below _ _ _› ?_)) | omega | (simp; done) | (simp; omega) | (simp at *; omega)))) hb)); rintro e w1 ⟨rfl, hb1⟩; obtain ⟨hc1, hf1⟩ := bcell hb1; have hz1 := hb1.size; (try simp at hz1); (try simp only [heap_drew, World.heap_drewN] at hz1); (try simp only [heap_drew, World.heap_drewN] at hc1); (try simp only [heap_drew, World.heap_drewN] at hf1); (try have hs1 := Nat.lt_of_succ_le hz1); (try have hs2 := Nat.lt_of_succ_lt hs1); (try have y0 : w.heap.size < w1.heap.size := by omega); (try have y1 : w.heap.size + 1 < w1.heap.size := by omega); (try have y2 : w.heap.size + 2 < w1.heap.size := by omega)) | (go_at_call 23; (with_reducible refine (SP.out _ ?_).mono ?_); (focus (exact HT.out.below (by (repeat' (first | assumption | exact Below.refl _ _ | exact Below.size (by assumption) | (refine Below.setCell ?_ ?_ _) | (refine Below.alloc ?_ ?_ _) | (refine Below.drew ?_) | (refine below_drewN ?_ _) | (refine Below.trans ?_ (Below.mono ‹Below _ _ _› ?_)) | omega | (simp; done) | (simp; omega) | (simp at *; omega)))) hb)); rintro e w1 ⟨rfl, hb1⟩; obtain ⟨hc1, hf1⟩ := bcell hb1; have hz1 := hb1.size; (try simp at hz1); (try simp only [heap_drew, World.heap_drewN] at hz1); (try simp only [heap_drew, World.heap_drewN] at hc1); (try simp only [heap_drew, World.heap_drewN] at hf1); (try have hs1 := Nat.lt_of_succ_le hz1); (try have hs2 := Nat.lt_of_succ_lt hs1); (try have y0 : w.heap.size < w1.heap.size := by omega); (try have y1 : w.heap.size + 1 < w1.heap.size := by omega); (try have y2 : w.heap.size + 2 < w1.heap.size := by omega)) | (go_at_call 32; (with_reducible refine (SG.out _).mono ?_); rintro e w1 ⟨rfl, hb1⟩; obtain ⟨hc1, hf1⟩ := bcell hb1; have hz1 := hb1.size; (try simp at hz1); (try simp only [heap_drew, World.heap_drewN] at hz1); (try simp only [heap_drew, World.heap_drewN] at hc1); (try simp only [heap_drew, World.heap_drewN] at hf1); (try have hs1 := Nat.lt_of_succ_le hz1); (try have hs2 := Nat.lt_of_succ_lt hs1); (try have y0 : w.heap.size < w1.heap.size := by omega); (try have y1 : w.heap.size + 1 < w1.heap.size := by omega); (try have y2 : w.heap.size + 2 < w1.heap.size := by omega)))
        go_quiet (fail)
        have c0 : (w1.drewN nq).cell? ⟨w.heap.size, 0, none⟩ = some (.int .i64 0) := by simp [go_sem, *]
        have c1 : (w1.drewN nq).cell? ⟨w.heap.size, 1, none⟩ = some (.int .i64 0) := by simp [go_sem, *]
        have f0 : (w1.drewN nq).frozen? ⟨w.heap.size, 0, none⟩ = false := by simp [go_sem, *]
        have f1 : (w1.drewN nq).frozen? ⟨w.heap.size, 1, none⟩ = false := by simp [go_sem, *]
        have hbq : Below w.heap.size w (w1.drewN nq) := by (repeat' (first | assumption | exact Below.refl _ _ | exact Below.size (by assumption) | (refine Below.setCell ?_ ?_ _) | (refine Below.alloc ?_ ?_ _) | (refine Below.drew ?_) | (refine below_drewN ?_ _) | (refine Below.trans ?_ (Below.mono ‹Below _ _ _› ?_)) | omega | (simp; done) | (simp; omega) | (simp at *; omega)))
        have hsq : w.heap.size < (w1.drewN nq).heap.size := by simp <;> omega
        generalize w1.drewN nq = w2 at c0 c1 f0 f1 hbq hsq ⊢
        clear hc1 hf1 hb1
        go_wp2_with fail
        refine bodyPost_ret (v := .tuple #[.agg #[.int .i64 0, .int .i64 0], .int .i64 5]) (by simp [results, Tryz.results14, go_sem, *]) rfl ⟨rfl, ?_⟩
        (repeat' (first | assumption | exact Below.refl _ _ | exact Below.size (by assumption) | (refine Below.setCell ?_ ?_ _) | (refine Below.alloc ?_ ?_ _) | (refine Below.drew ?_) | (refine below_drewN ?_ _) | (refine Below.trans ?_ (Below.mono ‹Below _ _ _› ?_)) | omega | (simp; done) | (simp; omega) | (simp at *; omega)))
  · have T := decide_eq_false (show ¬ (1073741824 : Int) < (D : Int) by omega)
    have T2 : decide (1073741824 < q) = false := decide_eq_false (by omega)
    have T3 : decide (q < -1073741825) = false := decide_eq_false (by omega)
    have hmb := mul_bounds hq1 hq2 hD1
    obtain ⟨P, hP⟩ : ∃ z, z = q * (D : Int) := ⟨_, rfl⟩
    rw [← hP] at hmb hM
    have hR1 : R ≤ 2251799813685248 := by have := HB.out; omega
    have e3 : IntKind.i64.wrap (q * (D : Int)) = P := by rw [← hP, IntKind.wrap_i64]; omega
    obtain ⟨M, hMM⟩ : ∃ z, z = P + (R : Int) := ⟨_, rfl⟩
    have e4 : IntKind.i64.wrap (P + (R : Int)) = M := by rw [← hMM, IntKind.wrap_i64]; omega
    rw [← hMM] at hM
    have SM := Lib.hid fun w => tmake M D n1 n2 ee (by omega) (by omega) HV3.out (by omega) hM w
    clear hM hmb hP hMM hR1 hD1 hq1 hq2
    go_enter Tryz.func14, Tryz.ntmps14
    go_wp2_with (first | (go_at_call 19; (with_reducible refine (S0.out _ ?_).mono ?_); (focus (exact HT.out.below (by (repeat' (first | assumption | exact Below.refl _ _ | exact Below.size (by assumption) | (refine Below.setCell ?_ ?_ _) | (refine Below.alloc ?_ ?_ _) | (refine Below.drew ?_) | (refine below_drewN ?_ _) | (refine Below.trans ?_ (Below.mono ‹Below _ _ _› ?_)) | omega | (simp; done) | (simp; omega) | (simp at *; omega)))) hb)); rintro e w1 ⟨rfl, hb1⟩; obtain ⟨hc1, hf1⟩ := bcell hb1; have hz1 := hb1.size; (try simp at hz1); (try simp only [heap_drew, World.heap_drewN] at hz1); (try simp only [heap_drew, World.heap_drewN] at hc1); (try simp only [heap_drew, World.heap_drewN] at hf1); (try have hs1 := Nat.lt_of_succ_le hz1); (try have hs2 := Nat.lt_of_succ_lt hs1); (try have y0 : w.heap.size < w1.heap.size := by omega); (try have y1 : w.heap.size + 1 < w1.heap.size := by omega); (try have y2 : w.heap.size + 2 < w1.heap.size := by omega)) | (go_at_call 23; (with_reducible refine (SP.out _ ?_).mono ?_); (focus (exact HT.out.below (by (repeat' (first | assumption | exact Below.refl _ _ | exact Below.size (by assumption) | (refine Below.setCell ?_ ?_ _) | (refine Below.alloc ?_ ?_ _) | (refine Below.drew ?_) | (refine below_drewN ?_ _) | (refine Below.trans ?_ (Below.mono ‹Below _ _ _› ?_)) | omega | (simp; done) | (simp; omega) | (simp at *; omega)))) hb)); rintro e w1 ⟨rfl, hb1⟩; obtain ⟨hc1, hf1⟩ := bcell hb1; have hz1 := hb1.size; (try simp at hz1); (try simp only [heap_drew, World.heap_drewN] at hz1); (try simp only [heap_drew, World.heap_drewN] at hc1); (try simp only [heap_drew, World.heap_drewN] at hf1); (try have hs1 := Nat.lt_of_succ_le hz1); (try have hs2 := Nat.lt_of_succ_lt hs1); (try have y0 : w.heap.size < w1.heap.size := by omega); (try have y1 : w.heap.size + 1 < w1.heap.size := by omega); (try have y2 : w.heap.size + 2 < w1.heap.size := by omega)) | (go_at_call 32; (with_reducible refine (SG.out _).mono ?_); rintro e w1 ⟨rfl, hb1⟩; obtain ⟨hc1, hf1⟩ := bcell hb1; have hz1 := hb1.size; (try simp at hz1); (try simp only [heap_drew, World.heap_drewN] at hz1); (try simp only [heap_drew, World.heap_drewN] at hc1); (try simp only [heap_drew, World.heap_drewN] at hf1); (try have hs1 := Nat.lt_of_succ_le hz1); (try have hs2 := Nat.lt_of_succ_lt hs1); (try have y0 : w.heap.size < w1.heap.size := by omega); (try have y1 : w.heap.size + 1 < w1.heap.size := by omega); (try have y2 : w.heap.size + 2 < w1.heap.size := by omega)))
    go_quiet (fail)
    have c0 : (w1.drewN nq).cell? ⟨w.heap.size, 0, none⟩ = some (.int .i64 0) := by simp [go_sem, *]
    have c1 : (w1.drewN nq).cell? ⟨w.heap.size, 1, none⟩ = some (.int .i64 0) := by simp [go_sem, *]
    have f0 : (w1.drewN nq).frozen? ⟨w.heap.size, 0, none⟩ = false := by simp [go_sem, *]
    have f1 : (w1.drewN nq).frozen? ⟨w.heap.size, 1, none⟩ = false := by simp [go_sem, *]
    have hbq : Below w.heap.size w (w1.drewN nq) := by (repeat' (first | assumption | exact Below.refl _ _ | exact Below.size (by assumption) | (refine Below.setCell ?_ ?_ _) | (refine Below.alloc ?_ ?_ _) | (refine Below.drew ?_) | (refine below_drewN ?_ _) | (refine Below.trans ?_ (Below.mono ‹Below _ _ _› ?_)) | omega | (simp; done) | (simp; omega) | (simp at *; omega)))
    have hsq : w.heap.size < (w1.drewN nq).heap.size := by simp <;> omega
    generalize w1.drewN nq = w2 at c0 c1 f0 f1 hbq hsq ⊢
    clear hc1 hf1 hb1
    go_wp2_with (first | (go_at_call 33; (with_reducible refine (SM.out _).mono ?_); rintro e w3 ⟨rfl, hb3⟩; obtain ⟨hc3, hf3⟩ := bcell hb3; have hz3 := hb3.size; (try simp at hz3); (try simp only [heap_drew, World.heap_drewN] at hz3); (try simp only [heap_drew, World.heap_drewN] at hc3); (try simp only [heap_drew, World.heap_drewN] at hf3); (try have hs1 := Nat.lt_of_succ_le hz3); (try have hs2 := Nat.lt_of_succ_lt hs1); (try have y0 : w.heap.size < w3.heap.size := by omega); (try have y1 : w.heap.size + 1 < w3.heap.size := by omega); (try have y2 : w.heap.size + 2 < w3.heap.size := by omega)))
    refine bodyPost_ret (v := .tuple #[.agg #[.int .i64 n1, .int .i64 n2], .int .i64 ee]) (by simp [results, Tryz.results14, go_sem, *]) rfl ⟨rfl, ?_⟩
    (repeat' (first | assumption | exact Below.refl _ _ | exact Below.size (by assumption) | (refine Below.setCell ?_ ?_ _) | (refine Below.alloc ?_ ?_ _) | (refine Below.drew ?_) | (refine below_drewN ?_ _) | (refine Below.trans ?_ (Below.mono ‹Below _ _ _› ?_)) | omega | (simp; done) | (simp; omega) | (simp at *; omega)))
end Go.Proofs.YtpeelnjkppdkbaaGreat

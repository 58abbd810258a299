/- The velocity at a depth, by the reference. -/
import Derived.Test.YtchapkjloicfnaaRefG
import Derived.Test.YtchapkjloicfnaaVel
import Derived.Deep.RegionWith
namespace Go.Proofs.Ytchapkjloicfnaa
open Go.RowKit
set_option linter.unusedVariables false
set_option linter.unusedSimpArgs false

/-- The integer quotient of the reference, rounded down, for a numerator z whose quotient towards 0 is q and whose product is P. -/
theorem rfloor_ (z q P r : Int) (d : Nat) (hd : 0 < d) (h1 : Int.tdiv z (d : Int) = q) (h2 : IntKind.i64.wrap q = q) (h3 : IntKind.i64.wrap (q * (d : Int)) = P) (h4 : (z < P ∧ IntKind.i64.wrap (q - 1) = r) ∨ (P ≤ z ∧ q = r)) (w : World) :
    Calls Try.prog 49 #[.int .i64 z, .int .i64 (d : Int)] w fun e w' => e = .returned (.int .i64 r) ∧ Below w.heap.size w w' := by
  have n2 : ¬ (d : Int) = 0 := by omega
  have n4 : ¬ d = 0 := by omega
  have n5 : ((d : Int) == 0) = false := by simp <;> omega
  rcases h4 with ⟨h4, h5⟩ | ⟨h4, rfl⟩
  · have T : decide (z < P) = true := decide_eq_true h4
    clear h4 hd
    go_enter Try.func49, Try.ntmps49
    go_wp2_with fail
    go_ret
    refine ⟨rfl, ?_⟩
    (repeat' (first | assumption | exact Below.refl _ _ | exact Below.size (by assumption) | (refine Below.setCell ?_ ?_ _) | (refine Below.alloc ?_ ?_ _) | (refine Below.drew ?_) | (refine below_drewN ?_ _) | (refine Below.trans ?_ (Below.mono ‹Below _ _ _› ?_)) | omega | (simp; done) | (simp; omega) | (simp at *; omega)))
  · have T : decide (z < P) = false := decide_eq_false (by omega)
    clear h4 hd
    go_enter Try.func49, Try.ntmps49
    go_wp2_with fail
    go_ret
    refine ⟨rfl, ?_⟩
    (repeat' (first | assumption | exact Below.refl _ _ | exact Below.size (by assumption) | (refine Below.setCell ?_ ?_ _) | (refine Below.alloc ?_ ?_ _) | (refine Below.drew ?_) | (refine below_drewN ?_ _) | (refine Below.trans ?_ (Below.mono ‹Below _ _ _› ?_)) | omega | (simp; done) | (simp; omega) | (simp at *; omega)))
theorem rfloor4 (n d q : Nat) (hn : n < 4611686018427387904) (hd : 0 < d) (hd' : d < 4611686018427387904) (hq : q = n / d) (w : World) :
    Calls Try.prog 49 #[.int .i64 (n : Int), .int .i64 (d : Int)] w fun e w' => e = .returned (.int .i64 (q : Int)) ∧ Below w.heap.size w w' := by
  have h1 : q ≤ n := by rw [hq]; exact Nat.div_le_self _ _
  have h2 : q * d ≤ n := by rw [hq]; exact Nat.div_mul_le_self _ _
  refine rfloor_ n q ((q * d : Nat) : Int) q d hd (div_nat hq) (wrap_id (by omega) (by omega)) (by rw [← Int.natCast_mul]; exact wrap_id (by omega) (by omega)) (.inr ⟨by omega, rfl⟩) w
theorem ceil_num {n d q : Nat} (hd : 0 < d) (hq : q = (n + d - 1) / d) : (n / d * d < n ∧ q = n / d + 1) ∨ (n / d * d = n ∧ q = n / d) := by
  have h := Nat.div_add_mod' n d
  have hm := Nat.mod_lt n hd
  generalize n % d = r at *
  generalize n / d = k at *
  subst h
  rcases Nat.eq_zero_or_pos r with rfl | hr
  · right
    refine ⟨rfl, ?_⟩
    rw [hq, show k * d + 0 + d - 1 = d * k + (d - 1) by rw [Nat.mul_comm k d]; omega, Nat.mul_add_div hd, Nat.div_eq_of_lt (by omega), Nat.add_zero]
  · left
    refine ⟨by omega, ?_⟩
    rw [hq, show k * d + r + d - 1 = d * (k + 1) + (r - 1) by rw [Nat.mul_comm k d, Nat.mul_add]; omega, Nat.mul_add_div hd, Nat.div_eq_of_lt (by omega), Nat.add_zero]
theorem rceil4 (n d q : Nat) (hn : n < 4611686018427387904) (hd : 0 < d) (hd' : d < 4611686018427387904) (hq : q = (n + d - 1) / d) (w : World) :
    Calls Try.prog 50 #[.int .i64 (n : Int), .int .i64 (d : Int)] w fun e w' => e = .returned (.int .i64 (q : Int)) ∧ Below w.heap.size w w' := by
  have hb : (n / d * d < n ∧ q = n / d + 1) ∨ (n / d * d = n ∧ q = n / d) := ceil_num hd hq
  obtain ⟨k, hk⟩ : ∃ k, k = n / d := ⟨_, rfl⟩
  have h1 : k ≤ n := by rw [hk]; exact Nat.div_le_self _ _
  rw [← hk] at hb
  have hqn : (q : Int) ≤ n + 1 := by omega
  have S := Lib.hid fun w => rfloor_ (-(n : Int)) (-(k : Int)) (-((k * d : Nat) : Int)) (-(q : Int)) d hd (by rw [Int.neg_tdiv, div_nat hk]) (wrap_id (by omega) (by omega)) (by rw [Int.neg_mul, ← Int.natCast_mul]; rcases hb with hb | hb <;> exact wrap_id (by omega) (by omega))
    (by rcases hb with hb | hb
        · left; refine ⟨by omega, ?_⟩; rw [show -(k : Int) - 1 = -(q : Int) by omega]; exact wrap_id (by omega) (by omega)
        · right; omega) w
  have e1 : IntKind.i64.wrap (-(n : Int)) = -(n : Int) := wrap_id (by omega) (by omega)
  have e2 : IntKind.i64.wrap (- -(q : Int)) = (q : Int) := by rw [Int.neg_neg]; exact wrap_id (by omega) (by omega)
  obtain ⟨z, hz⟩ : ∃ z, z = -(n : Int) := ⟨_, rfl⟩
  obtain ⟨y, hy⟩ : ∃ z, z = -(q : Int) := ⟨_, rfl⟩
  have e1' : IntKind.i64.wrap (-(n : Int)) = z := by rw [e1, hz]
  have e2' : IntKind.i64.wrap (-y) = (q : Int) := by rw [hy, e2]
  rw [← hz, ← hy] at S
  clear hn hd hd' hq hb hk h1 hqn e1 e2 hz hy
  go_enter Try.func50, Try.ntmps50
  go_wp2_with (go_at_call 49; (with_reducible refine (S.out _).mono ?_); rintro e w1 ⟨rfl, hb1⟩; obtain ⟨hc1, hf1⟩ := bcell hb1; have hz1 := hb1.size; (try simp at hz1); (try simp only [heap_drew, World.heap_drewN] at hz1); (try simp only [heap_drew, World.heap_drewN] at hc1); (try simp only [heap_drew, World.heap_drewN] at hf1); (try have hs1 := Nat.lt_of_succ_le hz1); (try have hs2 := Nat.lt_of_succ_lt hs1); (try have y0 : w.heap.size < w1.heap.size := by omega); (try have y1 : w.heap.size + 1 < w1.heap.size := by omega); (try have y2 : w.heap.size + 2 < w1.heap.size := by omega))
  go_ret
  refine ⟨rfl, ?_⟩
  (repeat' (first | assumption | exact Below.refl _ _ | exact Below.size (by assumption) | (refine Below.setCell ?_ ?_ _) | (refine Below.alloc ?_ ?_ _) | (refine Below.drew ?_) | (refine below_drewN ?_ _) | (refine Below.trans ?_ (Below.mono ‹Below _ _ _› ?_)) | omega | (simp; done) | (simp; omega) | (simp at *; omega)))

set_option maxHeartbeats 1000000 in
theorem rvelocity (nm : ByteArray) (h p : Int) (A C : Option Addr) (na ca nc cc : Nat) (AX AY CX CY : Nat → Int) (x f l Q e' : Int) (q : Nat) (a b e : Int) (w : World) (hn : nm.size ≤ maxLen) (hA : TabIn w A na AX AY) (hC : TabIn w C nc CX CY)
    (hc : CapIs (SecOK nm.data.toList h p na AX AY nc CX CY) h x f l q Q e')
    (hcap : CapIs (SecOK nm.data.toList h p na AX AY nc CX CY) h x f l (capN (valK nc CX CY x) f.toNat l.toNat) Q e')
    (hr : VelIs Q e' q (areaLo na AX AY x) (areaHi na AX AY x) a b e) :
    Calls Try.prog 28 #[.agg #[.string nm, .int .i64 h, .int .i64 p, .slice A na ca, .slice C nc cc], .int .i64 x, .int .i64 f, .int .i64 l] w fun e1 w' => e1 = .returned (.tuple #[.agg #[.int .i64 a, .int .i64 b], .int .i64 e]) ∧ Below w.heap.size w w' := by
  have SC := Lib.hid fun w hA hC => rcap nm h p A C na ca nc cc AX AY CX CY x f l Q e' w hn hA hC hcap
  have HA := Lib.hid hA
  have HC := Lib.hid hC
  rcases hr with ⟨he, rfl, rfl, rfl⟩ | ⟨rfl, hu, rfl, rfl, rfl⟩ | ⟨rfl, hu, rfl, rfl, rfl, rfl⟩
  · have U1 : (e == 0) = false := by simp <;> omega
    clear hA hC hc hcap
    go_enter Try.func28, Try.ntmps28
    go_wp2_with (go_at_call 21; (with_reducible refine (SC.out _ ?_ ?_).mono ?_); (focus (exact HA.out.below (Nat.le_refl _) (by (repeat' (first | assumption | exact Below.refl _ _ | exact Below.size (by assumption) | (refine Below.setCell ?_ ?_ _) | (refine Below.alloc ?_ ?_ _) | (refine Below.drew ?_) | (refine below_drewN ?_ _) | (refine Below.trans ?_ (Below.mono ‹Below _ _ _› ?_)) | omega | (simp; done) | (simp; omega) | (simp at *; omega)))))); (focus (exact HC.out.below (Nat.le_refl _) (by (repeat' (first | assumption | exact Below.refl _ _ | exact Below.size (by assumption) | (refine Below.setCell ?_ ?_ _) | (refine Below.alloc ?_ ?_ _) | (refine Below.drew ?_) | (refine below_drewN ?_ _) | (refine Below.trans ?_ (Below.mono ‹Below _ _ _› ?_)) | omega | (simp; done) | (simp; omega) | (simp at *; omega)))))); rintro e w1 ⟨rfl, hb1⟩; obtain ⟨hc1, hf1⟩ := bcell hb1; have hz1 := hb1.size; (try simp at hz1); (try simp only [heap_drew, World.heap_drewN] at hz1); (try simp only [heap_drew, World.heap_drewN] at hc1); (try simp only [heap_drew, World.heap_drewN] at hf1); (try have hs1 := Nat.lt_of_succ_le hz1); (try have hs2 := Nat.lt_of_succ_lt hs1); (try have y0 : w.heap.size < w1.heap.size := by omega); (try have y1 : w.heap.size + 1 < w1.heap.size := by omega); (try have y2 : w.heap.size + 2 < w1.heap.size := by omega))
    refine bodyPost_ret (v := .tuple #[.agg #[.int .i64 0, .int .i64 0], .int .i64 e]) (by simp [results, Try.results28, go_sem, *]) rfl ⟨rfl, ?_⟩
    (repeat' (first | assumption | exact Below.refl _ _ | exact Below.size (by assumption) | (refine Below.setCell ?_ ?_ _) | (refine Below.alloc ?_ ?_ _) | (refine Below.drew ?_) | (refine below_drewN ?_ _) | (refine Below.trans ?_ (Below.mono ‹Below _ _ _› ?_)) | omega | (simp; done) | (simp; omega) | (simp at *; omega)))
  · obtain ⟨hok, hx⟩ : SecOK nm.data.toList h p na AX AY nc CX CY ∧ 0 ≤ x ∧ x ≤ h := by
      rcases hc with ⟨_, _, h⟩ | ⟨_, _, _, h⟩ | ⟨_, _, _, _, _, _, h⟩ | ⟨h1, h2, h3, _⟩
      · exact absurd h (by omega)
      · exact absurd h (by omega)
      · exact absurd h (by omega)
      · exact ⟨h1, h2, h3⟩
    obtain ⟨b, off, m, rfl, rfl, hT, hvt, h00, h01, h02, h03⟩ := sec_area hok hA
    obtain ⟨g1, g2, g3, g4, g5⟩ := area_spec (x := x) hvt h01 h03
    have SA := Lib.hid fun w hA hC => rarea nm h p (some ⟨b, off, none⟩) C (m + 1) ca nc cc AX AY CX CY x 0 (areaHi (m + 1) AX AY x) 0 w hn hA hC (.inr (.inr ⟨hok, hx.1, hx.2, by rw [Nat.add_sub_cancel, g1, hu]; rfl, by rw [Nat.add_sub_cancel, g2], rfl⟩))
    obtain ⟨V, hV⟩ : ∃ V, V = areaHi (m + 1) AX AY x := ⟨_, rfl⟩
    rw [← hV] at SA
    clear hA hC hc hcap hok hx hT hvt h00 h01 h02 h03 g1 g2 g3 g4 g5 hV hu
    go_enter Try.func28, Try.ntmps28
    go_wp2_with (first | (go_at_call 21; (with_reducible refine (SC.out _ ?_ ?_).mono ?_); (focus (exact HA.out.below (Nat.le_refl _) (by (repeat' (first | assumption | exact Below.refl _ _ | exact Below.size (by assumption) | (refine Below.setCell ?_ ?_ _) | (refine Below.alloc ?_ ?_ _) | (refine Below.drew ?_) | (refine below_drewN ?_ _) | (refine Below.trans ?_ (Below.mono ‹Below _ _ _› ?_)) | omega | (simp; done) | (simp; omega) | (simp at *; omega)))))); (focus (exact HC.out.below (Nat.le_refl _) (by (repeat' (first | assumption | exact Below.refl _ _ | exact Below.size (by assumption) | (refine Below.setCell ?_ ?_ _) | (refine Below.alloc ?_ ?_ _) | (refine Below.drew ?_) | (refine below_drewN ?_ _) | (refine Below.trans ?_ (Below.mono ‹Below _ _ _› ?_)) | omega | (simp; done) | (simp; omega) | (simp at *; omega)))))); rintro e w1 ⟨rfl, hb1⟩; obtain ⟨hc1, hf1⟩ := bcell hb1; have hz1 := hb1.size; (try simp at hz1); (try simp only [heap_drew, World.heap_drewN] at hz1); (try simp only [heap_drew, World.heap_drewN] at hc1); (try simp only [heap_drew, World.heap_drewN] at hf1); (try have hs1 := Nat.lt_of_succ_le hz1); (try have hs2 := Nat.lt_of_succ_lt hs1); (try have y0 : w.heap.size < w1.heap.size := by omega); (try have y1 : w.heap.size + 1 < w1.heap.size := by omega); (try have y2 : w.heap.size + 2 < w1.heap.size := by omega)) | (go_at_call 26; (with_reducible refine (SA.out _ ?_ ?_).mono ?_); (focus (exact HA.out.below (Nat.le_refl _) (by (repeat' (first | assumption | exact Below.refl _ _ | exact Below.size (by assumption) | (refine Below.setCell ?_ ?_ _) | (refine Below.alloc ?_ ?_ _) | (refine Below.drew ?_) | (refine below_drewN ?_ _) | (refine Below.trans ?_ (Below.mono ‹Below _ _ _› ?_)) | omega | (simp; done) | (simp; omega) | (simp at *; omega)))))); (focus (exact HC.out.below (Nat.le_refl _) (by (repeat' (first | assumption | exact Below.refl _ _ | exact Below.size (by assumption) | (refine Below.setCell ?_ ?_ _) | (refine Below.alloc ?_ ?_ _) | (refine Below.drew ?_) | (refine below_drewN ?_ _) | (refine Below.trans ?_ (Below.mono ‹Below _ _ _› ?_)) | omega | (simp; done) | (simp; omega) | (simp at *; omega)))))); rintro e w1 ⟨rfl, hb1⟩; obtain ⟨hc1, hf1⟩ := bcell hb1; have hz1 := hb1.size; (try simp at hz1); (try simp only [heap_drew, World.heap_drewN] at hz1); (try simp only [heap_drew, World.heap_drewN] at hc1); (try simp only [heap_drew, World.heap_drewN] at hf1); (try have hs1 := Nat.lt_of_succ_le hz1); (try have hs2 := Nat.lt_of_succ_lt hs1); (try have y0 : w.heap.size < w1.heap.size := by omega); (try have y1 : w.heap.size + 1 < w1.heap.size := by omega); (try have y2 : w.heap.size + 2 < w1.heap.size := by omega)))
    refine bodyPost_ret (v := .tuple #[.agg #[.int .i64 0, .int .i64 0], .int .i64 16]) (by simp [results, Try.results28, go_sem, *]) rfl ⟨rfl, ?_⟩
    (repeat' (first | assumption | exact Below.refl _ _ | exact Below.size (by assumption) | (refine Below.setCell ?_ ?_ _) | (refine Below.alloc ?_ ?_ _) | (refine Below.drew ?_) | (refine below_drewN ?_ _) | (refine Below.trans ?_ (Below.mono ‹Below _ _ _› ?_)) | omega | (simp; done) | (simp; omega) | (simp at *; omega)))
  · obtain ⟨hok, hx, hq⟩ : SecOK nm.data.toList h p na AX AY nc CX CY ∧ (0 ≤ x ∧ x ≤ h) ∧ q ≤ 1099511627776 := by
      rcases hc with ⟨_, _, h⟩ | ⟨_, _, _, h⟩ | ⟨_, _, _, _, _, _, h⟩ | ⟨h1, h2, h3, _, h4, _⟩
      · exact absurd h (by omega)
      · exact absurd h (by omega)
      · exact absurd h (by omega)
      · exact ⟨h1, ⟨h2, h3⟩, h4⟩
    obtain ⟨b, off, m, rfl, rfl, hT, hvt, h00, h01, h02, h03⟩ := sec_area hok hA
    obtain ⟨g1, g2, g3, g4, g5⟩ := area_spec (x := x) hvt h01 h03
    have SA := Lib.hid fun w hA hC => rarea nm h p (some ⟨b, off, none⟩) C (m + 1) ca nc cc AX AY CX CY x (areaLo (m + 1) AX AY x) (areaHi (m + 1) AX AY x) 0 w hn hA hC (.inr (.inr ⟨hok, hx.1, hx.2, by rw [Nat.add_sub_cancel, g1], by rw [Nat.add_sub_cancel, g2], rfl⟩))
    obtain ⟨V, hV⟩ : ∃ V, V = areaHi (m + 1) AX AY x := ⟨_, rfl⟩
    obtain ⟨U, hU⟩ : ∃ V, V = areaLo (m + 1) AX AY x := ⟨_, rfl⟩
    rw [← hV, ← hU] at SA
    rw [← hV, ← hU] at g3 g4
    rw [← hU] at g5 hu
    rw [← hV, ← hU]
    obtain ⟨Z, hZ⟩ : ∃ V, V = 1000 * q := ⟨_, rfl⟩
    rw [← hZ]
    obtain ⟨Y, hY⟩ : ∃ V, V = Z + U - 1 := ⟨_, rfl⟩
    rw [← hY]
    obtain ⟨r1, hr1⟩ : ∃ r, r = Z / V := ⟨_, rfl⟩
    obtain ⟨r2, hr2⟩ : ∃ r, r = Y / U := ⟨_, rfl⟩
    rw [← hr1, ← hr2]
    have l1 : r1 ≤ Z := by rw [hr1]; exact Nat.div_le_self _ _
    have l2 : r2 ≤ Y := by rw [hr2]; exact Nat.div_le_self _ _
    have z1 : IntKind.i64.wrap (1000 * (q : Int)) = (Z : Int) := by rw [IntKind.wrap_i64]; omega
    have SF := Lib.hid fun w => rfloor4 Z V r1 (by omega) (by omega) (by omega) hr1 w
    have SG := Lib.hid fun w => rceil4 Z U r2 (by omega) (by omega) (by omega) (by rw [hr2, hY]) w
    have n1 : ¬ (V : Int) = 0 := by omega
    have n2 : ¬ (U : Int) = 0 := by omega
    have n3 : ¬ V = 0 := by omega
    have n4 : ¬ U = 0 := by omega
    have n5 : ((U : Int) == 0) = false := by simp <;> omega
    have n6 : ((V : Int) == 0) = false := by simp <;> omega
    clear hA hC hc hcap hok hx hT hvt h00 h01 h02 h03 g1 g2 g3 g4 g5 hV hU hu hZ hY hr1 hr2 l1 l2 hq
    go_enter Try.func28, Try.ntmps28
    go_wp2_with (first | (go_at_call 21; (with_reducible refine (SC.out _ ?_ ?_).mono ?_); (focus (exact HA.out.below (Nat.le_refl _) (by (repeat' (first | assumption | exact Below.refl _ _ | exact Below.size (by assumption) | (refine Below.setCell ?_ ?_ _) | (refine Below.alloc ?_ ?_ _) | (refine Below.drew ?_) | (refine below_drewN ?_ _) | (refine Below.trans ?_ (Below.mono ‹Below _ _ _› ?_)) | omega | (simp; done) | (simp; omega) | (simp at *; omega)))))); (focus (exact HC.out.below (Nat.le_refl _) (by (repeat' (first | assumption | exact Below.refl _ _ | exact Below.size (by assumption) | (refine Below.setCell ?_ ?_ _) | (refine Below.alloc ?_ ?_ _) | (refine Below.drew ?_) | (refine below_drewN ?_ _) | (refine Below.trans ?_ (Below.mono ‹Below _ _ _› ?_)) | omega | (simp; done) | (simp; omega) | (simp at *; omega)))))); rintro e w1 ⟨rfl, hb1⟩; obtain ⟨hc1, hf1⟩ := bcell hb1; have hz1 := hb1.size; (try simp at hz1); (try simp only [heap_drew, World.heap_drewN] at hz1); (try simp only [heap_drew, World.heap_drewN] at hc1); (try simp only [heap_drew, World.heap_drewN] at hf1); (try have hs1 := Nat.lt_of_succ_le hz1); (try have hs2 := Nat.lt_of_succ_lt hs1); (try have y0 : w.heap.size < w1.heap.size := by omega); (try have y1 : w.heap.size + 1 < w1.heap.size := by omega); (try have y2 : w.heap.size + 2 < w1.heap.size := by omega)) | (go_at_call 26; (with_reducible refine (SA.out _ ?_ ?_).mono ?_); (focus (exact HA.out.below (Nat.le_refl _) (by (repeat' (first | assumption | exact Below.refl _ _ | exact Below.size (by assumption) | (refine Below.setCell ?_ ?_ _) | (refine Below.alloc ?_ ?_ _) | (refine Below.drew ?_) | (refine below_drewN ?_ _) | (refine Below.trans ?_ (Below.mono ‹Below _ _ _› ?_)) | omega | (simp; done) | (simp; omega) | (simp at *; omega)))))); (focus (exact HC.out.below (Nat.le_refl _) (by (repeat' (first | assumption | exact Below.refl _ _ | exact Below.size (by assumption) | (refine Below.setCell ?_ ?_ _) | (refine Below.alloc ?_ ?_ _) | (refine Below.drew ?_) | (refine below_drewN ?_ _) | (refine Below.trans ?_ (Below.mono ‹Below _ _ _› ?_)) | omega | (simp; done) | (simp; omega) | (simp at *; omega)))))); rintro e w1 ⟨rfl, hb1⟩; obtain ⟨hc1, hf1⟩ := bcell hb1; have hz1 := hb1.size; (try simp at hz1); (try simp only [heap_drew, World.heap_drewN] at hz1); (try simp only [heap_drew, World.heap_drewN] at hc1); (try simp only [heap_drew, World.heap_drewN] at hf1); (try have hs1 := Nat.lt_of_succ_le hz1); (try have hs2 := Nat.lt_of_succ_lt hs1); (try have y0 : w.heap.size < w1.heap.size := by omega); (try have y1 : w.heap.size + 1 < w1.heap.size := by omega); (try have y2 : w.heap.size + 2 < w1.heap.size := by omega)))
    go_region_with (first | (go_at_call 49; (with_reducible refine (SF.out _).mono ?_); rintro e w1 ⟨rfl, hb1⟩; obtain ⟨hc1, hf1⟩ := bcell hb1; have hz1 := hb1.size; (try simp at hz1); (try simp only [heap_drew, World.heap_drewN] at hz1); (try simp only [heap_drew, World.heap_drewN] at hc1); (try simp only [heap_drew, World.heap_drewN] at hf1); (try have hs1 := Nat.lt_of_succ_le hz1); (try have hs2 := Nat.lt_of_succ_lt hs1); (try have y0 : w.heap.size < w1.heap.size := by omega); (try have y1 : w.heap.size + 1 < w1.heap.size := by omega); (try have y2 : w.heap.size + 2 < w1.heap.size := by omega)) | (go_at_call 50; (with_reducible refine (SG.out _).mono ?_); rintro e w1 ⟨rfl, hb1⟩; obtain ⟨hc1, hf1⟩ := bcell hb1; have hz1 := hb1.size; (try simp at hz1); (try simp only [heap_drew, World.heap_drewN] at hz1); (try simp only [heap_drew, World.heap_drewN] at hc1); (try simp only [heap_drew, World.heap_drewN] at hf1); (try have hs1 := Nat.lt_of_succ_le hz1); (try have hs2 := Nat.lt_of_succ_lt hs1); (try have y0 : w.heap.size < w1.heap.size := by omega); (try have y1 : w.heap.size + 1 < w1.heap.size := by omega); (try have y2 : w.heap.size + 2 < w1.heap.size := by omega)))
    all_goals (go_wp2_with fail)
    all_goals (refine bodyPost_ret (v := .tuple #[.agg #[.int .i64 r1, .int .i64 r2], .int .i64 0]) (by simp [results, Try.results28, go_sem, *]) rfl ⟨rfl, ?_⟩)
    all_goals ((repeat' (first | assumption | exact Below.refl _ _ | exact Below.size (by assumption) | (refine Below.setCell ?_ ?_ _) | (refine Below.alloc ?_ ?_ _) | (refine Below.drew ?_) | (refine below_drewN ?_ _) | (refine Below.trans ?_ (Below.mono ‹Below _ _ _› ?_)) | omega | (simp; done) | (simp; omega) | (simp at *; omega))))
end Go.Proofs.Ytchapkjloicfnaa

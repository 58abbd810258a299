/- The value of a table at a number, as an integer, a rest and a denominator. -/
import Derived.Test.YthbdeaglncoanaaGreatDoorPiece
namespace Go.Proofs.YthbdeaglncoanaaGreatDoor
open Go.RowKit
set_option linter.unusedVariables false
set_option linter.unusedSimpArgs false

theorem wminused (x y z : Nat) (hx : x < 1329227995784915872903807060280344576) (h : y ≤ x) (hz : z = x - y) (w : World) :
    Calls Tryz.prog 100 #[.agg #[.int .i64 (hiW x), .int .i64 (loW x)], .agg #[.int .i64 (hiW y), .int .i64 (loW y)]] w fun e w' => e = .returned (.tuple #[.agg #[.int .i64 (hiW z), .int .i64 (loW z)], .int .i64 0]) ∧ Below w.heap.size w w' := by
  subst hz
  rcases Nat.eq_zero_or_pos y with rfl | h0
  · exact wsub_zero x hx w
  · exact wsub_pos x y hx h h0 w

/-- What the piece's numbers satisfy, so that no product is too great. -/
theorem piece_bounds {U A D : Nat} (bU : U ≤ 2251799813685248) (bA : A < D) (bD : D ≤ 2251799813685248) :
    U * A < 1329227995784915872903807060280344576 ∧ U * A / 18446744073709551616 < D ∧ U * A / D < 9223372036854775808 ∧ (U * A + D - 1) / D < 9223372036854775808 ∧ U * A / D * D ≤ U * A ∧ U * A % D = U * A - U * A / D * D := by
  have h1 : U * A ≤ 2251799813685248 * A := Nat.mul_le_mul_right A bU
  have h2 : U * A / D ≤ U := by
    apply Nat.div_le_of_le_mul
    rw [Nat.mul_comm D U]
    exact Nat.mul_le_mul_left U (by omega)
  have h3 : (U * A + D - 1) / D < U + 2 := by
    rw [Nat.div_lt_iff_lt_mul (by omega), Nat.add_mul]
    have : U * A ≤ U * D := Nat.mul_le_mul_left U (by omega)
    omega
  have h4 := Nat.div_add_mod' (U * A) D
  have h5 := Nat.div_mul_le_self (U * A) D
  generalize U * A = P at *
  refine ⟨by omega, by omega, by omega, by omega, h5, ?_⟩
  omega

theorem piece_found (b off n c k : Nat) (X Y : Nat → Int) (x : Int) (w : World) (h1 : 1 ≤ n) (h2 : n ≤ 100) (ht : TabAt w b off n X Y) (hs : SearchAt n X x k) (hk : k < n) (hf : k = 0 ∨ X k = x) :
    Calls Tryz.prog 73 #[.slice (some ⟨b, off, none⟩) n c, .int .i64 x] w fun e w' => e = .returned (.tuple #[.int .i64 (Y k), .int .i64 0, .int .i64 1]) ∧ Below w.heap.size w w' := by
  obtain ⟨f, hff⟩ : ∃ f, Hid (f = (decide (k < n) && decide (X k = x))) := ⟨_, rfl⟩
  have C := Lib.hid fun w ht => bsearch b off n c k X Y x w h1 h2 ht hs f hff
  have HT := Lib.hid ht
  have hb := ht.1
  have hq : (f = true ∨ f = false ∧ k = 0) := by
    rcases hf with h | h
    · cases f with
      | true => exact .inl rfl
      | false => exact .inr ⟨rfl, h⟩
    · left; rw [hff.out]; simp [hk, h]
  clear ht hs hf hff
  have hy := (HT.out.2 k hk).2
  rcases hq with rfl | ⟨rfl, rfl⟩
  · go_enter Tryz.func73, Tryz.ntmps73
    go_wp2_with (first | ((go_at_call 96; (with_reducible refine (C.out _ HT.out).mono ?_); rintro e w1 ⟨rfl, hb1⟩; obtain ⟨hc1, hf1⟩ := bcell hb1; have hz1 := hb1.size; (try simp at hz1); (try simp only [heap_drew, World.heap_drewN] at hz1); (try simp only [heap_drew, World.heap_drewN] at hc1); (try simp only [heap_drew, World.heap_drewN] at hf1); (try have hs1 := Nat.lt_of_succ_le hz1); (try have hs2 := Nat.lt_of_succ_lt hs1); (try have y0 : w.heap.size < w1.heap.size := by omega); (try have y1 : w.heap.size + 1 < w1.heap.size := by omega); (try have y2 : w.heap.size + 2 < w1.heap.size := by omega))))
    go_ret3
    refine ⟨rfl, ?_⟩
    (repeat' (first | assumption | exact Below.refl _ _ | exact Below.size (by assumption) | (refine Below.setCell ?_ ?_ _) | (refine Below.alloc ?_ ?_ _) | (refine Below.drew ?_) | (refine below_drewN ?_ _) | (refine Below.trans ?_ (Below.mono ‹Below _ _ _› ?_)) | omega | (simp; done) | (simp; omega) | (simp at *; omega)))
  · go_enter Tryz.func73, Tryz.ntmps73
    go_wp2_with (first | ((go_at_call 96; (with_reducible refine (C.out _ HT.out).mono ?_); rintro e w1 ⟨rfl, hb1⟩; obtain ⟨hc1, hf1⟩ := bcell hb1; have hz1 := hb1.size; (try simp at hz1); (try simp only [heap_drew, World.heap_drewN] at hz1); (try simp only [heap_drew, World.heap_drewN] at hc1); (try simp only [heap_drew, World.heap_drewN] at hf1); (try have hs1 := Nat.lt_of_succ_le hz1); (try have hs2 := Nat.lt_of_succ_lt hs1); (try have y0 : w.heap.size < w1.heap.size := by omega); (try have y1 : w.heap.size + 1 < w1.heap.size := by omega); (try have y2 : w.heap.size + 2 < w1.heap.size := by omega))))
    go_ret3
    refine ⟨rfl, ?_⟩
    (repeat' (first | assumption | exact Below.refl _ _ | exact Below.size (by assumption) | (refine Below.setCell ?_ ?_ _) | (refine Below.alloc ?_ ?_ _) | (refine Below.drew ?_) | (refine below_drewN ?_ _) | (refine Below.trans ?_ (Below.mono ‹Below _ _ _› ?_)) | omega | (simp; done) | (simp; omega) | (simp at *; omega)))
theorem piece_end (b off n c : Nat) (X Y : Nat → Int) (x : Int) (w : World) (h1 : 1 ≤ n) (h2 : n ≤ 100) (ht : TabAt w b off n X Y) (hs : SearchAt n X x n) :
    Calls Tryz.prog 73 #[.slice (some ⟨b, off, none⟩) n c, .int .i64 x] w fun e w' => e = .returned (.tuple #[.int .i64 (Y (n - 1)), .int .i64 0, .int .i64 1]) ∧ Below w.heap.size w w' := by
  have C := Lib.hid fun w ht => bsearch b off n c n X Y x w h1 h2 ht hs false (by show false = _; simp)
  have HT := Lib.hid ht
  have hb := ht.1
  clear ht hs
  obtain ⟨m, rfl⟩ : ∃ m, n = m + 1 := ⟨n - 1, by omega⟩
  have hy := (HT.out.2 m (by omega)).2
  have e0 : ((m : Int) + 1 == 0) = false := by simp <;> omega
  go_enter Tryz.func73, Tryz.ntmps73
  go_wp2_with (first | ((go_at_call 96; (with_reducible refine (C.out _ HT.out).mono ?_); rintro e w1 ⟨rfl, hb1⟩; obtain ⟨hc1, hf1⟩ := bcell hb1; have hz1 := hb1.size; (try simp at hz1); (try simp only [heap_drew, World.heap_drewN] at hz1); (try simp only [heap_drew, World.heap_drewN] at hc1); (try simp only [heap_drew, World.heap_drewN] at hf1); (try have hs1 := Nat.lt_of_succ_le hz1); (try have hs2 := Nat.lt_of_succ_lt hs1); (try have y0 : w.heap.size < w1.heap.size := by omega); (try have y1 : w.heap.size + 1 < w1.heap.size := by omega); (try have y2 : w.heap.size + 2 < w1.heap.size := by omega))))
  go_ret3
  refine ⟨rfl, ?_⟩
  (repeat' (first | assumption | exact Below.refl _ _ | exact Below.size (by assumption) | (refine Below.setCell ?_ ?_ _) | (refine Below.alloc ?_ ?_ _) | (refine Below.drew ?_) | (refine below_drewN ?_ _) | (refine Below.trans ?_ (Below.mono ‹Below _ _ _› ?_)) | omega | (simp; done) | (simp; omega) | (simp at *; omega)))
set_option maxHeartbeats 2000000 in
theorem piece_mid (b off n c p U A D q r : Nat) (X Y : Nat → Int) (x : Int) (w : World) (h1 : 1 ≤ n) (h2 : n ≤ 100) (ht : TabAt w b off n X Y) (hs : SearchAt n X x (p + 1)) (hk : p + 1 < n) (hne : X (p + 1) ≠ x)
    (eU : IntKind.i64.wrap (Y (p + 1) - Y p) = (U : Int)) (eA : IntKind.i64.wrap (x - X p) = (A : Int)) (eD : IntKind.i64.wrap (X (p + 1) - X p) = (D : Int)) (bU : U ≤ 2251799813685248) (bA : A < D) (bD : D ≤ 2251799813685248)
    (hq : q = U * A / D) (hr : r = U * A % D) (eY : IntKind.i64.wrap (Y p + (q : Int)) = Y p + (q : Int)) :
    Calls Tryz.prog 73 #[.slice (some ⟨b, off, none⟩) n c, .int .i64 x] w fun e w' => e = .returned (.tuple #[.int .i64 (Y p + (q : Int)), .int .i64 (r : Int), .int .i64 (D : Int)]) ∧ Below w.heap.size w w' := by
  have C := Lib.hid fun w ht => bsearch b off n c (p + 1) X Y x w h1 h2 ht hs false (by show false = _; simp [hne])
  have HT := Lib.hid ht
  have hb := ht.1
  have e0 : ((p : Int) + 1 == 0) = false := by simp <;> omega
  have e1 : ((p : Int) + 1 == (n : Int)) = false := by simp <;> omega
  have e2 : IntKind.i64.wrap ((p : Int) + 1 - 1) = (p : Int) := by rw [IntKind.wrap_i64]; omega
  have e3 : IntKind.i64.wrap (p : Int) = (p : Int) := by rw [IntKind.wrap_i64]; omega
  have l1 : p < n := by omega
  have hy1 := (HT.out.2 p l1).1
  have hy2 := (HT.out.2 p l1).2
  have hk1 := (HT.out.2 (p + 1) hk).1
  have hk2 := (HT.out.2 (p + 1) hk).2
  have l2 : (p : Int) + 1 < (n : Int) := by omega
  have l3 : (0 : Int) ≤ (p : Int) + 1 := by omega
  clear ht hs
  go_enter Tryz.func73, Tryz.ntmps73
  go_wp2_with (first | ((go_at_call 96; (with_reducible refine (C.out _ HT.out).mono ?_); rintro e w1 ⟨rfl, hb1⟩; obtain ⟨hc1, hf1⟩ := bcell hb1; have hz1 := hb1.size; (try simp at hz1); (try simp only [heap_drew, World.heap_drewN] at hz1); (try simp only [heap_drew, World.heap_drewN] at hc1); (try simp only [heap_drew, World.heap_drewN] at hf1); (try have hs1 := Nat.lt_of_succ_le hz1); (try have hs2 := Nat.lt_of_succ_lt hs1); (try have y0 : w.heap.size < w1.heap.size := by omega); (try have y1 : w.heap.size + 1 < w1.heap.size := by omega); (try have y2 : w.heap.size + 2 < w1.heap.size := by omega)); have hbw := Nat.lt_of_lt_of_le hb hb1.size))
  have HB1 := Lib.hid hb1
  go_cut [9, 10] from 50 to 58 (fun s t wx => ∃ g h : Nat, s = .pointer (some ⟨g, 0, none⟩) ∧ t = .pointer (some ⟨h, 0, none⟩) ∧ g < wx.heap.size ∧ h < wx.heap.size ∧ wx.cell? ⟨g, 0, none⟩ = some (.int .i64 (X p)) ∧ wx.cell? ⟨g, 1, none⟩ = some (.int .i64 (Y p)) ∧ wx.cell? ⟨h, 0, none⟩ = some (.int .i64 (X (p + 1))) ∧ wx.cell? ⟨h, 1, none⟩ = some (.int .i64 (Y (p + 1))) ∧ Below w.heap.size w wx)
  case first =>
    go_region
    all_goals (go_wp2_with fail; go_meet)
    case rel => exact ⟨_, _, rfl, rfl, by simp [heap_drew] <;> omega, by simp [heap_drew] <;> omega, by simp, by simp, by simp, by simp, by (repeat' (first | assumption | exact Below.refl _ _ | exact Below.size (by assumption) | (refine Below.setCell ?_ ?_ _) | (refine Below.alloc ?_ ?_ _) | (refine Below.drew ?_) | (refine below_drewN ?_ _) | (refine Below.trans ?_ (Below.mono ‹Below _ _ _› ?_)) | omega | (simp; done) | (simp; omega) | (simp at *; omega)))⟩
    case rel => exact ⟨_, _, rfl, rfl, by simp [heap_drew] <;> omega, by simp [heap_drew] <;> omega, by simp, by simp, by simp, by simp, by (repeat' (first | assumption | exact Below.refl _ _ | exact Below.size (by assumption) | (refine Below.setCell ?_ ?_ _) | (refine Below.alloc ?_ ?_ _) | (refine Below.drew ?_) | (refine below_drewN ?_ _) | (refine Below.trans ?_ (Below.mono ‹Below _ _ _› ?_)) | omega | (simp; done) | (simp; omega) | (simp at *; omega)))⟩
  case rest =>
    obtain ⟨g, h, rfl, rfl, hg, hh, g0, g1, k0, k1, hbx⟩ := hcut
    have hzb := hbx.size
    clear hb1 hc1 hf1 hz1 hbw hy1 hy2 hk1 hk2
    obtain ⟨p1, p2, p3, p4, p5, p6⟩ := piece_bounds bU bA bD
    have S1 := Lib.hid fun w => wscale U A D q ((U * A + D - 1) / D) (by omega) (by omega) (by omega) p2 hq rfl (by rw [hq]; exact p3) p4 w
    have S2 := Lib.hid fun w => wproduct U A (by omega) (by omega) p1 w
    have S3 := Lib.hid fun w => wproduct q D (by rw [hq]; exact p3) (by omega) (by rw [hq]; omega) w
    have S4 := Lib.hid fun w => wminused (U * A) (q * D) r p1 (by rw [hq]; exact p5) (by rw [hr, hq]; exact p6) w
    have S5 := Lib.hid fun w => wint r (by have := Nat.mod_lt (U * A) (by omega : 0 < D); omega) w
    clear p1 p2 p3 p4 p5 p6 hq hr bU bA bD h1 h2 hk hne
    go_wp2_with fail
    go_quiet (fail)
    go_wp2_with (first | (go_at_call 98; (with_reducible refine (S1.out _).mono ?_); rintro e w1 ⟨rfl, hb1⟩; obtain ⟨hc1, hf1⟩ := bcell hb1; have hz1 := hb1.size; (try simp at hz1); (try simp only [heap_drew, World.heap_drewN] at hz1); (try simp only [heap_drew, World.heap_drewN] at hc1); (try simp only [heap_drew, World.heap_drewN] at hf1); (try have hs1 := Nat.lt_of_succ_le hz1); (try have hs2 := Nat.lt_of_succ_lt hs1); (try have y0 : w.heap.size < w1.heap.size := by omega); (try have y1 : w.heap.size + 1 < w1.heap.size := by omega); (try have y2 : w.heap.size + 2 < w1.heap.size := by omega); (try have yg : g < w1.heap.size := by omega); (try have yh : h < w1.heap.size := by omega)) | (go_at_call 99; (with_reducible refine (S2.out _).mono ?_); rintro e w1 ⟨rfl, hb1⟩; obtain ⟨hc1, hf1⟩ := bcell hb1; have hz1 := hb1.size; (try simp at hz1); (try simp only [heap_drew, World.heap_drewN] at hz1); (try simp only [heap_drew, World.heap_drewN] at hc1); (try simp only [heap_drew, World.heap_drewN] at hf1); (try have hs1 := Nat.lt_of_succ_le hz1); (try have hs2 := Nat.lt_of_succ_lt hs1); (try have y0 : w.heap.size < w1.heap.size := by omega); (try have y1 : w.heap.size + 1 < w1.heap.size := by omega); (try have y2 : w.heap.size + 2 < w1.heap.size := by omega); (try have yg : g < w1.heap.size := by omega); (try have yh : h < w1.heap.size := by omega)) | (go_at_call 99; (with_reducible refine (S3.out _).mono ?_); rintro e w1 ⟨rfl, hb1⟩; obtain ⟨hc1, hf1⟩ := bcell hb1; have hz1 := hb1.size; (try simp at hz1); (try simp only [heap_drew, World.heap_drewN] at hz1); (try simp only [heap_drew, World.heap_drewN] at hc1); (try simp only [heap_drew, World.heap_drewN] at hf1); (try have hs1 := Nat.lt_of_succ_le hz1); (try have hs2 := Nat.lt_of_succ_lt hs1); (try have y0 : w.heap.size < w1.heap.size := by omega); (try have y1 : w.heap.size + 1 < w1.heap.size := by omega); (try have y2 : w.heap.size + 2 < w1.heap.size := by omega); (try have yg : g < w1.heap.size := by omega); (try have yh : h < w1.heap.size := by omega)) | (go_at_call 100; (with_reducible refine (S4.out _).mono ?_); rintro e w1 ⟨rfl, hb1⟩; obtain ⟨hc1, hf1⟩ := bcell hb1; have hz1 := hb1.size; (try simp at hz1); (try simp only [heap_drew, World.heap_drewN] at hz1); (try simp only [heap_drew, World.heap_drewN] at hc1); (try simp only [heap_drew, World.heap_drewN] at hf1); (try have hs1 := Nat.lt_of_succ_le hz1); (try have hs2 := Nat.lt_of_succ_lt hs1); (try have y0 : w.heap.size < w1.heap.size := by omega); (try have y1 : w.heap.size + 1 < w1.heap.size := by omega); (try have y2 : w.heap.size + 2 < w1.heap.size := by omega); (try have yg : g < w1.heap.size := by omega); (try have yh : h < w1.heap.size := by omega)) | (go_at_call 101; (with_reducible refine (S5.out _).mono ?_); rintro e w1 ⟨rfl, hb1⟩; obtain ⟨hc1, hf1⟩ := bcell hb1; have hz1 := hb1.size; (try simp at hz1); (try simp only [heap_drew, World.heap_drewN] at hz1); (try simp only [heap_drew, World.heap_drewN] at hc1); (try simp only [heap_drew, World.heap_drewN] at hf1); (try have hs1 := Nat.lt_of_succ_le hz1); (try have hs2 := Nat.lt_of_succ_lt hs1); (try have y0 : w.heap.size < w1.heap.size := by omega); (try have y1 : w.heap.size + 1 < w1.heap.size := by omega); (try have y2 : w.heap.size + 2 < w1.heap.size := by omega); (try have yg : g < w1.heap.size := by omega); (try have yh : h < w1.heap.size := by omega)))
    go_ret3
    refine ⟨rfl, ?_⟩
    (repeat' (first | assumption | exact Below.refl _ _ | exact Below.size (by assumption) | (refine Below.setCell ?_ ?_ _) | (refine Below.alloc ?_ ?_ _) | (refine Below.drew ?_) | (refine below_drewN ?_ _) | (refine Below.trans ?_ (Below.mono ‹Below _ _ _› ?_)) | omega | (simp; done) | (simp; omega) | (simp at *; omega)))
end Go.Proofs.YthbdeaglncoanaaGreatDoor

/- The reference's value of a table. -/
import Derived.Test.YtpeelnjkppdkbaaGreatRefC
import Derived.Test.YtpeelnjkppdkbaaGreatArea
import Derived.BigQuiet
namespace Go.Proofs.YtpeelnjkppdkbaaGreat
open Go.RowKit
set_option linter.unusedVariables false
set_option linter.unusedSimpArgs false

/-- The last knot whose X is at most x, among the first i ones. -/
def BInv (X : Nat → Int) (x : Int) (i : Nat) (K : Int) : Prop := (K = -1 ∧ ∀ j, j < i → x < X j) ∨ ∃ k : Nat, k < i ∧ K = k ∧ X k ≤ x ∧ ∀ j, k < j → j < i → x < X j
theorem binv_uniq {X : Nat → Int} {x : Int} {i : Nat} {K L : Int} (h : BInv X x i K) (h' : BInv X x i L) : K = L := by
  rcases h with ⟨rfl, h⟩ | ⟨k, hk, rfl, h1, h2⟩ <;> rcases h' with ⟨rfl, h'⟩ | ⟨l, hl, rfl, h1', h2'⟩
  · rfl
  · have := h l hl; omega
  · have := h' k hk; omega
  · rcases Nat.lt_trichotomy k l with hc | rfl | hc
    · have := h2 l hc hl; omega
    · rfl
    · have := h2' k hc hk; omega
theorem binv_yes {X : Nat → Int} {x : Int} {i : Nat} (hx : X i ≤ x) : BInv X x (i + 1) i := .inr ⟨i, by omega, rfl, hx, fun j h1 h2 => absurd h1 (by omega)⟩
theorem binv_no {X : Nat → Int} {x : Int} {i : Nat} {K : Int} (h : BInv X x i K) (hx : x < X i) : BInv X x (i + 1) K := by
  have ex : ∀ j, j < i + 1 → ¬ j < i → x < X j := fun j h1 h2 => by
    have : j = i := by omega
    rw [this]; exact hx
  rcases h with ⟨rfl, h⟩ | ⟨k, hk, rfl, h1, h2⟩
  · exact .inl ⟨rfl, fun j hj => if hh : j < i then h j hh else ex j hj hh⟩
  · exact .inr ⟨k, by omega, rfl, h1, fun j hj hj' => if hh : j < i then h2 j hj hh else ex j hj' hh⟩

set_option maxHeartbeats 1000000 in
theorem rbefore (b off n c : Nat) (X Y : Nat → Int) (x K : Int) (w : World) (h2 : n ≤ 100) (ht : TabAt w b off n X Y) (hK : BInv X x n K) :
    Calls Tryz.prog 76 #[.slice (some ⟨b, off, none⟩) n c, .int .i64 x] w fun e w' => e = .returned (.int .i64 K) ∧ Below w.heap.size w w' := by
  have HT := Lib.hid ht
  have HK := Lib.hid hK
  have H2 := Lib.hid h2
  have hb := ht.1
  clear ht hK h2
  go_enter Tryz.func76, Tryz.ntmps76
  go_wp2_with fail
  go_loop [5, 6] (fun u v => ∃ (i : Nat) (L : Int), Hid (BInv X x i L) ∧ Hid (i ≤ n) ∧ u = .int .i64 L ∧ v = .int .i64 i) (fun _ v => n - (intOf v).toNat)
  case atStart => exact ⟨0, -1, .inl ⟨rfl, fun j hj => absurd hj (Nat.not_lt_zero _)⟩, Nat.zero_le _, rfl, rfl⟩
  case round =>
    obtain ⟨i, L, HL, Hi, rfl, rfl⟩ := hrel
    by_cases hlt : i < n
    · have T0 : decide ((i : Int) < (n : Int)) = true := by simp <;> omega
      have T0' : decide (i < n) = true := decide_eq_true hlt
      obtain ⟨i', hi'⟩ : ∃ z, z = i + 1 := ⟨_, rfl⟩
      have x0 : IntKind.i64.wrap ((i : Int) + 1) = (i' : Int) := by have := H2.out; rw [IntKind.wrap_i64]; omega
      have hX := (HT.out.2 i hlt).1
      have HI' : Hid (i' ≤ n) := by show i' ≤ n; omega
      have HMS : Hid (n - (intOf (Value.int .i64 (i' : Int))).toNat < n - (intOf (Value.int .i64 (i : Int))).toNat) := by show _ < _; simp [intOf]; omega
      by_cases hx : X i ≤ x
      · have HL' : Hid (BInv X x i' i) := by rw [hi']; exact binv_yes hx
        clear hi'
        go_wp2_with fail
        go_round
        case rel => exact ⟨i', _, HL', HI', rfl, rfl⟩
        case measure => exact HMS.out
      · have HL' : Hid (BInv X x i' L) := by rw [hi']; exact binv_no HL.out (by omega)
        clear hi'
        go_wp2_with fail
        go_round
        case rel => exact ⟨i', _, HL', HI', rfl, rfl⟩
        case measure => exact HMS.out
    · obtain rfl : i = n := by have := Hi.out; omega
      obtain rfl : L = K := binv_uniq HL.out HK.out
      go_wp2_with fail
      go_ret
      refine ⟨rfl, ?_⟩
      (repeat' (first | assumption | exact Below.refl _ _ | exact Below.size (by assumption) | (refine Below.setCell ?_ ?_ _) | (refine Below.alloc ?_ ?_ _) | (refine Below.drew ?_) | (refine below_drewN ?_ _) | (refine Below.trans ?_ (Below.mono ‹Below _ _ _› ?_)) | omega | (simp; done) | (simp; omega) | (simp at *; omega)))

theorem rvalue_first (b off n c : Nat) (X Y : Nat → Int) (x : Int) (w : World) (h1 : 1 ≤ n) (h2 : n ≤ 100) (ht : TabAt w b off n X Y) (hK : BInv X x n (-1)) :
    Calls Tryz.prog 50 #[.slice (some ⟨b, off, none⟩) n c, .int .i64 x] w fun e w' => e = .returned (.tuple #[.int .i64 (Y 0), .int .i64 0, .int .i64 1]) ∧ Below w.heap.size w w' := by
  have S := Lib.hid fun w ht => rbefore b off n c X Y x (-1) w h2 ht hK
  have HT := Lib.hid ht
  have hb := ht.1
  have hy := (HT.out.2 0 (by omega)).2
  clear ht hK
  go_enter Tryz.func50, Tryz.ntmps50
  go_wp2_with (go_at_call 76; (with_reducible refine (S.out _ HT.out).mono ?_); rintro e w1 ⟨rfl, hb1⟩; obtain ⟨hc1, hf1⟩ := bcell hb1; have hz1 := hb1.size; (try simp at hz1); (try simp only [heap_drew, World.heap_drewN] at hz1); (try simp only [heap_drew, World.heap_drewN] at hc1); (try simp only [heap_drew, World.heap_drewN] at hf1); (try have hs1 := Nat.lt_of_succ_le hz1); (try have hs2 := Nat.lt_of_succ_lt hs1); (try have y0 : w.heap.size < w1.heap.size := by omega); (try have y1 : w.heap.size + 1 < w1.heap.size := by omega); (try have y2 : w.heap.size + 2 < w1.heap.size := by omega))
  go_ret3
  refine ⟨rfl, ?_⟩
  (repeat' (first | assumption | exact Below.refl _ _ | exact Below.size (by assumption) | (refine Below.setCell ?_ ?_ _) | (refine Below.alloc ?_ ?_ _) | (refine Below.drew ?_) | (refine below_drewN ?_ _) | (refine Below.trans ?_ (Below.mono ‹Below _ _ _› ?_)) | omega | (simp; done) | (simp; omega) | (simp at *; omega)))
theorem rvalue_last (b off n m c : Nat) (X Y : Nat → Int) (x : Int) (w : World) (hn : n = m + 1) (h2 : n ≤ 100) (ht : TabAt w b off n X Y) (hK : BInv X x n m) :
    Calls Tryz.prog 50 #[.slice (some ⟨b, off, none⟩) n c, .int .i64 x] w fun e w' => e = .returned (.tuple #[.int .i64 (Y m), .int .i64 0, .int .i64 1]) ∧ Below w.heap.size w w' := by
  have S := Lib.hid fun w ht => rbefore b off n c X Y x m w h2 ht hK
  have HT := Lib.hid ht
  have hb := ht.1
  have hmn : m < n := by omega
  have hy := (HT.out.2 m hmn).2
  have e1 : IntKind.i64.wrap ((n : Int) - 1) = (m : Int) := by rw [IntKind.wrap_i64]; omega
  have T0 : decide ((m : Int) < 0) = false := by simp
  clear ht hK hn
  go_enter Tryz.func50, Tryz.ntmps50
  go_wp2_with (go_at_call 76; (with_reducible refine (S.out _ HT.out).mono ?_); rintro e w1 ⟨rfl, hb1⟩; obtain ⟨hc1, hf1⟩ := bcell hb1; have hz1 := hb1.size; (try simp at hz1); (try simp only [heap_drew, World.heap_drewN] at hz1); (try simp only [heap_drew, World.heap_drewN] at hc1); (try simp only [heap_drew, World.heap_drewN] at hf1); (try have hs1 := Nat.lt_of_succ_le hz1); (try have hs2 := Nat.lt_of_succ_lt hs1); (try have y0 : w.heap.size < w1.heap.size := by omega); (try have y1 : w.heap.size + 1 < w1.heap.size := by omega); (try have y2 : w.heap.size + 2 < w1.heap.size := by omega))
  go_ret3
  refine ⟨rfl, ?_⟩
  (repeat' (first | assumption | exact Below.refl _ _ | exact Below.size (by assumption) | (refine Below.setCell ?_ ?_ _) | (refine Below.alloc ?_ ?_ _) | (refine Below.drew ?_) | (refine below_drewN ?_ _) | (refine Below.trans ?_ (Below.mono ‹Below _ _ _› ?_)) | omega | (simp; done) | (simp; omega) | (simp at *; omega)))

theorem rest_wrap {Z1 Z2 : Int} {R : Nat} (h : Z1 - Z2 = (R : Int)) (hR : R < 9223372036854775808) : IntKind.i64.wrap (IntKind.i64.wrap Z1 - IntKind.i64.wrap Z2) = (R : Int) := by
  simp only [IntKind.wrap_i64]; omega
set_option maxHeartbeats 2000000 in
set_option maxRecDepth 100000 in
theorem rvalue_mid (b off n k c U A D q R : Nat) (X Y : Nat → Int) (x v : Int) (w : World) (h2 : n ≤ 100) (ht : TabAt w b off n X Y) (hkn : k + 1 < n) (hK : BInv X x n k)
    (hU : IntKind.i64.wrap (Y (k + 1) - Y k) = (U : Int)) (hA : IntKind.i64.wrap (x - X k) = (A : Int)) (hD : IntKind.i64.wrap (X (k + 1) - X k) = (D : Int)) (bU : U < 9223372036854775808) (bA : A < 9223372036854775808) (bD : D < 9223372036854775808) (bD0 : 0 < D)
    (hq : U * A / D = q) (hq' : q < 9223372036854775808) (hR : U * A % D = R) (hv : IntKind.i64.wrap (Y k + (q : Int)) = v) :
    Calls Tryz.prog 50 #[.slice (some ⟨b, off, none⟩) n c, .int .i64 x] w fun e w' => e = .returned (.tuple #[.int .i64 v, .int .i64 (R : Int), .int .i64 (D : Int)]) ∧ Below w.heap.size w w' := by
  have S := Lib.hid fun w ht => rbefore b off n c X Y x k w h2 ht hK
  have S2 := Lib.hid fun w => rfloorof U A D q bU bA bD bD0 hq hq' w
  have HT := Lib.hid ht
  have hb := ht.1
  have hR2 : R < D := by rw [← hR]; exact Nat.mod_lt _ bD0
  have hW : IntKind.i64.wrap (IntKind.i64.wrap ((U : Int) * (A : Int)) - IntKind.i64.wrap ((q : Int) * (D : Int))) = (R : Int) := by
    apply rest_wrap _ (by omega)
    have e := Nat.div_add_mod' (U * A) D
    rw [hq, hR] at e
    rw [← Int.natCast_mul, ← Int.natCast_mul]
    omega
  obtain ⟨P, hP⟩ : ∃ z, IntKind.i64.wrap ((U : Int) * (A : Int)) = z := ⟨_, rfl⟩
  obtain ⟨P', hP'⟩ : ∃ z, IntKind.i64.wrap ((q : Int) * (D : Int)) = z := ⟨_, rfl⟩
  rw [hP, hP'] at hW
  obtain ⟨m, hm⟩ : ∃ m, n = m + 1 := ⟨n - 1, by omega⟩
  obtain ⟨k1, hk1⟩ : ∃ z, z = k + 1 := ⟨_, rfl⟩
  rw [← hk1] at hU hD hkn
  have hk : k < n := by omega
  have hx0 := (HT.out.2 k hk).1
  have hy0 := (HT.out.2 k hk).2
  have hx1 := (HT.out.2 k1 hkn).1
  have hy1 := (HT.out.2 k1 hkn).2
  have e1 : IntKind.i64.wrap ((n : Int) - 1) = (m : Int) := by rw [IntKind.wrap_i64]; omega
  have e2 : IntKind.i64.wrap ((k : Int) + 1) = (k1 : Int) := by rw [IntKind.wrap_i64]; omega
  have T0 : decide ((k : Int) < 0) = false := by simp
  have T1 : ((k : Int) == (m : Int)) = false := by simp <;> omega
  have T1' : ¬ k = m := by omega
  have hkI : (k : Int) < (n : Int) := by omega
  have hkI1 : (k1 : Int) < (n : Int) := by omega
  have hk0 : (0 : Int) ≤ (k : Int) := by omega
  have hk01 : (0 : Int) ≤ (k1 : Int) := by omega
  clear ht hK hm hk1 bU bA bD bD0 hq hq' hR hR2
  go_enter Tryz.func50, Tryz.ntmps50
  go_wp2_with (go_at_call 76; (with_reducible refine (S.out _ HT.out).mono ?_); rintro e w1 ⟨rfl, hb1⟩; obtain ⟨hc1, hf1⟩ := bcell hb1; have hz1 := hb1.size; (try simp at hz1); (try simp only [heap_drew, World.heap_drewN] at hz1); (try simp only [heap_drew, World.heap_drewN] at hc1); (try simp only [heap_drew, World.heap_drewN] at hf1); (try have hs1 := Nat.lt_of_succ_le hz1); (try have hs2 := Nat.lt_of_succ_lt hs1); (try have y0 : w.heap.size < w1.heap.size := by omega); (try have y1 : w.heap.size + 1 < w1.heap.size := by omega); (try have y2 : w.heap.size + 2 < w1.heap.size := by omega); (try have yb : b < w1.heap.size := by omega))
  go_quiet (fail)
  go_wp2_with fail
  go_quiet (fail)
  go_wp2_with (first | (go_at_call 77; (with_reducible refine (S2.out _).mono ?_); rintro e w1 ⟨rfl, hb1⟩; obtain ⟨hc1, hf1⟩ := bcell hb1; have hz1 := hb1.size; (try simp at hz1); (try simp only [heap_drew, World.heap_drewN] at hz1); (try simp only [heap_drew, World.heap_drewN] at hc1); (try simp only [heap_drew, World.heap_drewN] at hf1); (try have hs1 := Nat.lt_of_succ_le hz1); (try have hs2 := Nat.lt_of_succ_lt hs1); (try have y0 : w.heap.size < w1.heap.size := by omega); (try have y1 : w.heap.size + 1 < w1.heap.size := by omega); (try have y2 : w.heap.size + 2 < w1.heap.size := by omega); (try have yb : b < w1.heap.size := by omega)))
  go_quiet (fail)
  go_wp2_with fail
  go_ret3
  refine ⟨rfl, ?_⟩
  (repeat' (first | assumption | exact Below.refl _ _ | exact Below.size (by assumption) | (refine Below.setCell ?_ ?_ _) | (refine Below.alloc ?_ ?_ _) | (refine Below.drew ?_) | (refine below_drewN ?_ _) | (refine Below.trans ?_ (Below.mono ‹Below _ _ _› ?_)) | omega | (simp; done) | (simp; omega) | (simp at *; omega)))

/-- The reference's value is the table's value. -/
theorem rvalue (b off m c : Nat) (X Y : Nat → Int) (x : Int) (hv : TabOK (m + 1) X Y) (hx : -9223372036854775808 ≤ x ∧ x ≤ 9223372036854775807) :
    ∃ d : Int, ∀ w, TabAt w b off (m + 1) X Y → Calls Tryz.prog 50 #[.slice (some ⟨b, off, none⟩) (m + 1 : Nat) c, .int .i64 x] w fun e w' => e = .returned (.tuple #[.int .i64 (Val.val X Y m x), .int .i64 (Val.rst X Y m x), .int .i64 d]) ∧ Below w.heap.size w w' := by
  have ha := asc_of hv
  have h1 := hv.1
  have h2 := hv.2.1
  by_cases hx0 : x < X 0
  · refine ⟨1, fun w ht => ?_⟩
    rw [(Val.val_first ha (by omega)).1, (Val.val_first ha (by omega)).2]
    exact rvalue_first b off (m + 1) c X Y x w h1 h2 ht (.inl ⟨rfl, fun j hj => by have := (ha.mono (by omega : j ≤ m) (Nat.zero_le j)).1; omega⟩)
  · by_cases hx1 : X m ≤ x
    · refine ⟨1, fun w ht => ?_⟩
      rw [(Val.val_last hx1).1, (Val.val_last hx1).2]
      exact rvalue_last b off (m + 1) m c X Y x w rfl h2 ht (.inr ⟨m, by omega, rfl, hx1, fun j hj hj' => by omega⟩)
    · have hex : ∃ k, k < m ∧ X k ≤ x ∧ x < X (k + 1) := by
        rcases Val.where_ x ha with h | h | h
        · have : x = X 0 := by omega
          have hm : 0 < m := by
            rcases Nat.eq_zero_or_pos m with rfl | h
            · omega
            · exact h
          exact ⟨0, hm, by omega, by have := (ha 0 hm).1; omega⟩
        · exact absurd h hx1
        · exact h
      obtain ⟨k, hk, hx1, hx2⟩ := hex
      have bk := in_of hv (by omega : k < m + 1)
      have bk1 := in_of hv (by omega : k + 1 < m + 1)
      have hk1 := ha k hk
      obtain ⟨U, hU⟩ : ∃ U : Nat, Y (k + 1) - Y k = (U : Int) := ⟨(Y (k + 1) - Y k).toNat, by omega⟩
      obtain ⟨A, hA⟩ : ∃ U : Nat, x - X k = (U : Int) := ⟨(x - X k).toNat, by omega⟩
      obtain ⟨D, hD⟩ : ∃ U : Nat, X (k + 1) - X k = (U : Int) := ⟨(X (k + 1) - X k).toNat, by omega⟩
      refine ⟨(D : Int), fun w ht => ?_⟩
      have e1 : Val.val X Y m x = Y k + ((U * A / D : Nat) : Int) := by
        rw [(Val.val_mid ha hk hx1 hx2).1]; unfold Val.fl; rw [hU, hA, hD]; rfl
      have e2 : Val.rst X Y m x = ((U * A % D : Nat) : Int) := by
        rw [(Val.val_mid ha hk hx1 hx2).2]; unfold Val.rs; rw [hU, hA, hD]; rfl
      have hq : U * A / D ≤ U := by
        apply Nat.div_le_of_le_mul
        rw [Nat.mul_comm D U]
        exact Nat.mul_le_mul_left U (by omega)
      rw [e1, e2]
      exact rvalue_mid b off (m + 1) k c U A D (U * A / D) (U * A % D) X Y x _ w h2 ht (by omega)
        (.inr ⟨k, by omega, rfl, hx1, fun j hj hj' => by have := (ha.mono (by omega : j ≤ m) (by omega : k + 1 ≤ j)).1; omega⟩)
        (by rw [hU]; exact wrap_id (by omega) (by omega)) (by rw [hA]; exact wrap_id (by omega) (by omega)) (by rw [hD]; exact wrap_id (by omega) (by omega)) (by omega) (by omega) (by omega) (by omega) rfl (by omega) rfl
        (by have hb : (0 : Int) ≤ ((U * A / D : Nat) : Int) ∧ ((U * A / D : Nat) : Int) ≤ (U : Int) := ⟨Int.natCast_nonneg _, Int.ofNat_le.2 hq⟩
            generalize ((U * A / D : Nat) : Int) = q at hb ⊢
            exact wrap_id (by omega) (by omega))

theorem rfloor (b off m c : Nat) (X Y : Nat → Int) (x : Int) (hv : TabOK (m + 1) X Y) (hx : -9223372036854775808 ≤ x ∧ x ≤ 9223372036854775807) (w : World) (ht : TabAt w b off (m + 1) X Y) :
    Calls Tryz.prog 31 #[.slice (some ⟨b, off, none⟩) (m + 1 : Nat) c, .int .i64 x] w fun e w' => e = .returned (.int .i64 (Val.val X Y m x)) ∧ Below w.heap.size w w' := by
  obtain ⟨d, hd⟩ := rvalue b off m c X Y x hv hx
  have HD := Lib.hid hd
  have HT := Lib.hid ht
  obtain ⟨v, hv2⟩ : ∃ v, v = Val.val X Y m x := ⟨_, rfl⟩
  obtain ⟨u, hu2⟩ : ∃ v, v = Val.rst X Y m x := ⟨_, rfl⟩
  rw [← hv2, ← hu2] at HD
  rw [← hv2]
  clear hd hv ht hv2 hu2 hx
  go_enter Tryz.func31, Tryz.ntmps31
  go_wp2_with (go_at_call 50; (with_reducible refine (HD.out _ HT.out).mono ?_); rintro e w1 ⟨rfl, hb1⟩; obtain ⟨hc1, hf1⟩ := bcell hb1; have hz1 := hb1.size; (try simp at hz1); (try simp only [heap_drew, World.heap_drewN] at hz1); (try simp only [heap_drew, World.heap_drewN] at hc1); (try simp only [heap_drew, World.heap_drewN] at hf1); (try have hs1 := Nat.lt_of_succ_le hz1); (try have hs2 := Nat.lt_of_succ_lt hs1); (try have y0 : w.heap.size < w1.heap.size := by omega); (try have y1 : w.heap.size + 1 < w1.heap.size := by omega); (try have y2 : w.heap.size + 2 < w1.heap.size := by omega))
  go_ret
  refine ⟨rfl, ?_⟩
  (repeat' (first | assumption | exact Below.refl _ _ | exact Below.size (by assumption) | (refine Below.setCell ?_ ?_ _) | (refine Below.alloc ?_ ?_ _) | (refine Below.drew ?_) | (refine below_drewN ?_ _) | (refine Below.trans ?_ (Below.mono ‹Below _ _ _› ?_)) | omega | (simp; done) | (simp; omega) | (simp at *; omega)))
end Go.Proofs.YtpeelnjkppdkbaaGreat

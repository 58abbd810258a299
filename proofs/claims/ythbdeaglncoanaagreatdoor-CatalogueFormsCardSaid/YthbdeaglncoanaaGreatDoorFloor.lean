/- The value of a table at a number, rounded down and up, by the package. -/
import Derived.Test.YthbdeaglncoanaaGreatDoorPieceTwo
import Derived.Test.YthbdeaglncoanaaGreatDoorVal
namespace Go.Proofs.YthbdeaglncoanaaGreatDoor
open Go.RowKit
set_option linter.unusedVariables false
set_option linter.unusedSimpArgs false

theorem asc_of {m : Nat} {X Y : Nat → Int} (h : TabOK (m + 1) X Y) : Val.Asc X Y m := fun k hk => (h.2.2 (k + 1) (by omega)).2.2 (by omega)
theorem in_of {n k : Nat} {X Y : Nat → Int} (h : TabOK n X Y) (hk : k < n) : (-1125899906842624 ≤ X k ∧ X k ≤ 1125899906842624) ∧ (-1125899906842624 ≤ Y k ∧ Y k ≤ 1125899906842624) := ⟨(h.2.2 k hk).1, (h.2.2 k hk).2.1⟩

/-- What the search's piece gives is the table's value. -/
theorem tpiece (b off m c : Nat) (X Y : Nat → Int) (x : Int) (hv : TabOK (m + 1) X Y) :
    ∃ d : Int, ∀ w, TabAt w b off (m + 1) X Y → Calls Tryz.prog 73 #[.slice (some ⟨b, off, none⟩) (m + 1 : Nat) c, .int .i64 x] w fun e w' => e = .returned (.tuple #[.int .i64 (Val.val X Y m x), .int .i64 (Val.rst X Y m x), .int .i64 d]) ∧ Below w.heap.size w w' := by
  have ha := asc_of hv
  have h1 := hv.1
  have h2 := hv.2.1
  have found : ∀ k, k ≤ m → X k = x → ∀ w, TabAt w b off (m + 1) X Y → Calls Tryz.prog 73 #[.slice (some ⟨b, off, none⟩) (m + 1 : Nat) c, .int .i64 x] w fun e w' => e = .returned (.tuple #[.int .i64 (Val.val X Y m x), .int .i64 (Val.rst X Y m x), .int .i64 1]) ∧ Below w.heap.size w w' := fun k hk hx w ht => by
    subst hx
    rw [(Val.val_knot ha hk).1, (Val.val_knot ha hk).2]
    exact piece_found b off (m + 1) c k X Y (X k) w h1 h2 ht ⟨by omega, fun j hj => ha.lt hk hj, fun j hj hj' => (ha.mono (by omega) hj).1⟩ (by omega) (.inr rfl)
  rcases Val.where_ x ha with hx | hx | ⟨k, hk, hx1, hx2⟩
  · refine ⟨1, fun w ht => ?_⟩
    rw [(Val.val_first ha hx).1, (Val.val_first ha hx).2]
    exact piece_found b off (m + 1) c 0 X Y x w h1 h2 ht ⟨by omega, fun j hj => absurd hj (by omega), fun j hj hj' => by have := (ha.mono (by omega : j ≤ m) (Nat.zero_le j)).1; omega⟩ (by omega) (.inl rfl)
  · by_cases he : X m = x
    · exact ⟨1, found m (Nat.le_refl _) he⟩
    · refine ⟨1, fun w ht => ?_⟩
      rw [(Val.val_last hx).1, (Val.val_last hx).2]
      exact piece_end b off (m + 1) c X Y x w h1 h2 ht ⟨Nat.le_refl _, fun j hj => by have := (ha.mono (Nat.le_refl m) (by omega : j ≤ m)).1; omega, fun j hj hj' => absurd hj' (by omega)⟩
  · by_cases he : X k = x
    · exact ⟨1, found k (by omega) he⟩
    · have bk := in_of hv (by omega : k < m + 1)
      have bk1 := in_of hv (by omega : k + 1 < m + 1)
      have hk1 := ha k hk
      obtain ⟨U, hU⟩ : ∃ U : Nat, Y (k + 1) - Y k = (U : Int) := ⟨(Y (k + 1) - Y k).toNat, by omega⟩
      obtain ⟨A, hA⟩ : ∃ U : Nat, x - X k = (U : Int) := ⟨(x - X k).toNat, by omega⟩
      obtain ⟨D, hD⟩ : ∃ U : Nat, X (k + 1) - X k = (U : Int) := ⟨(X (k + 1) - X k).toNat, by omega⟩
      refine ⟨(D : Int), fun w ht => ?_⟩
      have e1 : Val.val X Y m x = Y k + ((U * A / D : Nat) : Int) := by
        rw [(Val.val_mid ha hk hx1 hx2).1]; unfold Val.fl; rw [hU, hA, hD]; rfl
      have e2 : Val.rst X Y m x = ((U * A % D : Nat) : Int) := by
        rw [(Val.val_mid ha hk hx1 hx2).2]; unfold Val.rs; rw [hU, hA, hD]; rfl
      have hq : U * A / D ≤ U := by
        apply Nat.div_le_of_le_mul
        rw [Nat.mul_comm D U]
        exact Nat.mul_le_mul_left U (by omega)
      rw [e1, e2]
      exact piece_mid b off (m + 1) c k U A D (U * A / D) (U * A % D) X Y x w h1 h2 ht
        ⟨by omega, fun j hj => by have := (ha.mono (by omega : k ≤ m) (by omega : j ≤ k)).1; omega, fun j hj hj' => by have := (ha.mono (by omega : j ≤ m) (by omega : k + 1 ≤ j)).1; omega⟩ (by omega) (by omega)
        (by rw [hU]; exact wrap_id (by omega) (by omega)) (by rw [hA]; exact wrap_id (by omega) (by omega)) (by rw [hD]; exact wrap_id (by omega) (by omega)) (by omega) (by omega) (by omega) rfl rfl
        (by have hb : (0 : Int) ≤ ((U * A / D : Nat) : Int) ∧ ((U * A / D : Nat) : Int) ≤ (U : Int) := ⟨Int.natCast_nonneg _, Int.ofNat_le.2 hq⟩
            generalize ((U * A / D : Nat) : Int) = q at hb ⊢
            exact wrap_id (by omega) (by omega))

theorem tfloor (b off m c : Nat) (X Y : Nat → Int) (x : Int) (hv : TabOK (m + 1) X Y) (w : World) (ht : TabAt w b off (m + 1) X Y) :
    Calls Tryz.prog 55 #[.slice (some ⟨b, off, none⟩) (m + 1 : Nat) c, .int .i64 x] w fun e w' => e = .returned (.tuple #[.int .i64 (Val.val X Y m x), .int .i64 0]) ∧ Below w.heap.size w w' := by
  obtain ⟨d, hd⟩ := tpiece b off m c X Y x hv
  have HD := Lib.hid hd
  have S := Lib.hid fun w ht => tvalid b off (m + 1) c X Y w hv.1 hv.2.1 ht
  have tv := tabB_true hv
  have HT := Lib.hid ht
  have hb := ht.1
  obtain ⟨v, hv2⟩ : ∃ v, v = Val.val X Y m x := ⟨_, rfl⟩
  obtain ⟨u, hu2⟩ : ∃ v, v = Val.rst X Y m x := ⟨_, rfl⟩
  rw [← hv2, ← hu2] at HD
  rw [← hv2]
  clear hd hv ht hv2 hu2
  go_enter Tryz.func55, Tryz.ntmps55
  go_wp2_with (first | (go_at_call 44; (with_reducible refine (S.out _ HT.out).mono ?_); rintro e w1 ⟨rfl, hb1⟩; obtain ⟨hc1, hf1⟩ := bcell hb1; have hz1 := hb1.size; (try simp at hz1); (try simp only [heap_drew, World.heap_drewN] at hz1); (try simp only [heap_drew, World.heap_drewN] at hc1); (try simp only [heap_drew, World.heap_drewN] at hf1); (try have hs1 := Nat.lt_of_succ_le hz1); (try have hs2 := Nat.lt_of_succ_lt hs1); (try have y0 : w.heap.size < w1.heap.size := by omega); (try have y1 : w.heap.size + 1 < w1.heap.size := by omega); (try have y2 : w.heap.size + 2 < w1.heap.size := by omega)) | (go_at_call 73; (with_reducible refine (HD.out _ ?_).mono ?_); (focus (exact HT.out.below hb1 hb)); rintro e w1 ⟨rfl, hb1⟩; obtain ⟨hc1, hf1⟩ := bcell hb1; have hz1 := hb1.size; (try simp at hz1); (try simp only [heap_drew, World.heap_drewN] at hz1); (try simp only [heap_drew, World.heap_drewN] at hc1); (try simp only [heap_drew, World.heap_drewN] at hf1); (try have hs1 := Nat.lt_of_succ_le hz1); (try have hs2 := Nat.lt_of_succ_lt hs1); (try have y0 : w.heap.size < w1.heap.size := by omega); (try have y1 : w.heap.size + 1 < w1.heap.size := by omega); (try have y2 : w.heap.size + 2 < w1.heap.size := by omega)))
  go_ret2
  refine ⟨rfl, ?_⟩
  (repeat' (first | assumption | exact Below.refl _ _ | exact Below.size (by assumption) | (refine Below.setCell ?_ ?_ _) | (refine Below.alloc ?_ ?_ _) | (refine Below.drew ?_) | (refine below_drewN ?_ _) | (refine Below.trans ?_ (Below.mono ‹Below _ _ _› ?_)) | omega | (simp; done) | (simp; omega) | (simp at *; omega)))
end Go.Proofs.YthbdeaglncoanaaGreatDoor

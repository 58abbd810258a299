/- slices.Equal at two tables. -/
import Derived.Test.YtdgfljkhnifemaaGreatDoorNetP
namespace Go.Proofs.YtdgfljkhnifemaaGreatDoor
open Go.RowKit
set_option linter.unusedVariables false
set_option linter.unusedSimpArgs false

def tabEq (n : Nat) (X Y : Nat → Int) (m : Nat) (X' Y' : Nat → Int) : Prop := n = m ∧ ∀ k, k < n → X k = X' k ∧ Y k = Y' k
theorem TabIn.at {w : World} {A : Option Addr} {n k : Nat} {X Y : Nat → Int} (h : TabIn w A n X Y) (hk : k < n) : ∃ b off, A = some ⟨b, off, none⟩ ∧ b < w.heap.size ∧ w.cell? ⟨b, off + k * 2, none⟩ = some (.int .i64 (X k)) ∧ w.cell? ⟨b, off + k * 2 + 1, none⟩ = some (.int .i64 (Y k)) := by
  rcases h.2 with h0 | ⟨b, off, hA, ht⟩
  · omega
  · exact ⟨b, off, hA, ht.1, (ht.2 k hk).1, (ht.2 k hk).2⟩
set_option maxHeartbeats 2000000 in
theorem tequal (A B : Option Addr) (n m c d : Nat) (X Y X' Y' : Nat → Int) (w : World) (hA : TabIn w A n X Y) (hB : TabIn w B m X' Y') :
    Calls Tryz.prog 140 #[.slice A n c, .slice B m d] w fun e w' => e = .returned (.bool (boolOf (tabEq n X Y m X' Y'))) ∧ Below w.heap.size w w' := by
  have HA := Lib.hid hA
  have HB := Lib.hid hB
  have H2 := Lib.hid hA.1
  obtain ⟨f, hf⟩ : ∃ f, Hid (f = boolOf (tabEq n X Y m X' Y')) := ⟨_, rfl⟩
  rw [← hf.out]
  by_cases hnm : n = m
  case neg =>
    obtain rfl : f = false := by rw [hf.out]; exact boolOf_false fun h => hnm h.1
    have t1 : (n == m) = false := by simpa using hnm
    have t2 : (n != m) = true := by simpa using hnm
    have t3 : ((n : Int) == (m : Int)) = false := by rw [beq_eq_false_iff_ne]; omega
    have t4 : ((n : Int) != (m : Int)) = true := by simp; omega
    clear hA hB hnm hf
    go_enter Tryz.func140, Tryz.ntmps140
    go_wp2_with fail
    go_ret
    exact ⟨rfl, Below.refl _ _⟩
  case pos =>
  subst hnm
  clear hA hB
  go_enter Tryz.func140, Tryz.ntmps140
  go_wp2_with fail
  go_loopw [13] (fun u wr => ∃ i : Nat, Hid (i ≤ n) ∧ u = .int .i64 i ∧ Hid (∀ j, j < i → X j = X' j ∧ Y j = Y' j) ∧ Hid (Below w.heap.size w wr)) (fun u _ => n - (RowKit.intOf u).toNat)
  case atStart => exact ⟨0, Nat.zero_le _, rfl, fun j hj => absurd hj (Nat.not_lt_zero _), Below.refl _ _⟩
  case round =>
    obtain ⟨i, Hi, rfl, HG, HW⟩ := hrel
    by_cases hlt : i < n
    · have T0 : decide ((i : Int) < (n : Int)) = true := by simp <;> omega
      have T0' : decide (i < n) = true := decide_eq_true hlt
      obtain ⟨i', hi'⟩ : ∃ z, z = i + 1 := ⟨_, rfl⟩
      have x0 : IntKind.i64.wrap ((i : Int) + 1) = (i' : Int) := by have := H2.out; rw [IntKind.wrap_i64]; omega
      have HI' : Hid (i' ≤ n) := by show i' ≤ n; omega
      have HMS : Hid (n - (RowKit.intOf (Value.int .i64 (i' : Int))).toNat < n - (RowKit.intOf (Value.int .i64 (i : Int))).toNat) := by show _ < _; simp [RowKit.intOf]; omega
      have k0 : (0 : Int) ≤ (i : Int) := by omega
      have k1 : (i : Int) < (n : Int) := by omega
      obtain ⟨b1, o1, rfl, hb1, p0, p1⟩ := (HA.out.below (Nat.le_refl _) HW.out).at hlt
      obtain ⟨b2, o2, rfl, hb2, q0, q1⟩ := (HB.out.below (Nat.le_refl _) HW.out).at hlt
      have HLT := Lib.hid hlt
      have HST : Hid (X i = X' i ∧ Y i = Y' i → ∀ j, j < i' → X j = X' j ∧ Y j = Y' j) := fun h j hj => by
        rcases Nat.lt_or_ge j i with g | g
        · exact HG.out j g
        · have : j = i := by omega
          rw [this]; exact h
      have HNO : Hid (¬ (X i = X' i ∧ Y i = Y' i) → f = false) := fun h => by
        rw [hf.out]; exact boolOf_false fun g => h (g.2 i HLT.out)
      generalize X i = x at p0 HST HNO
      generalize Y i = y at p1 HST HNO
      generalize X' i = x' at q0 HST HNO
      generalize Y' i = y' at q1 HST HNO
      clear hi' hlt
      by_cases hx : x = x'
      · subst hx
        by_cases hy : y = y'
        · subst hy
          go_wp2_with fail
          go_quiet (fail)
          go_wp2_with fail
          go_roundw
          case rel => exact ⟨i', HI', rfl, HST.out (by simp), below_drewN HW.out _⟩
          case measure => exact HMS.out
        · have t1 : (y == y') = false := by simpa using hy
          have t2 : (y != y') = true := by simpa using hy
          obtain rfl : f = false := HNO.out (by simpa using hy)
          clear hy
          go_wp2_with fail
          go_quiet (fail)
          go_wp2_with fail
          go_ret
          exact ⟨rfl, below_drewN HW.out _⟩
      · have t1 : (x == x') = false := by simpa using hx
        have t2 : (x != x') = true := by simpa using hx
        obtain rfl : f = false := HNO.out fun h => hx h.1
        clear hx
        go_wp2_with fail
        go_quiet (fail)
        go_wp2_with fail
        go_ret
        exact ⟨rfl, below_drewN HW.out _⟩
    · have hin : i = n := by have := Hi.out; omega
      have T0 : decide ((i : Int) < (n : Int)) = false := by simp <;> omega
      have T0' : decide (i < n) = false := decide_eq_false hlt
      obtain rfl : f = true := by rw [hf.out]; exact boolOf_true ⟨rfl, by rw [← hin]; exact HG.out⟩
      clear hlt hin
      go_wp2_with fail
      go_ret
      exact ⟨rfl, HW.out⟩
end Go.Proofs.YtdgfljkhnifemaaGreatDoor

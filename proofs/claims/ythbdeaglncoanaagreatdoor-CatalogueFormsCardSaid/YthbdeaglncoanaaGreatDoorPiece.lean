/- The piece of a table at a number: the search, and the value as an integer and a rest. -/
import Derived.Test.YthbdeaglncoanaaGreatDoorTabTwo
import Derived.Test.YthbdeaglncoanaaGreatDoorWideTwo
namespace Go.Proofs.YthbdeaglncoanaaGreatDoor
open Go.RowKit
set_option linter.unusedVariables false
set_option linter.unusedSimpArgs false

theorem pcmp_lt (a b x : Int) (h : a < x) (w : World) : Calls Tryz.prog 97 #[.agg #[.int .i64 a, .int .i64 b], .int .i64 x] w fun e w' => e = .returned (.int .i64 (-1)) ∧ Below w.heap.size w w' := by
  go_enter Tryz.func97, Tryz.ntmps97
  go_wp2
  go_ret
  refine ⟨rfl, ?_⟩
  (repeat' (first | assumption | exact Below.refl _ _ | exact Below.size (by assumption) | (refine Below.setCell ?_ ?_ _) | (refine Below.alloc ?_ ?_ _) | (refine Below.drew ?_) | (refine below_drewN ?_ _) | (refine Below.trans ?_ (Below.mono ‹Below _ _ _› ?_)) | omega | (simp; done) | (simp; omega) | (simp at *; omega)))
theorem pcmp_gt (a b x : Int) (h : x < a) (w : World) : Calls Tryz.prog 97 #[.agg #[.int .i64 a, .int .i64 b], .int .i64 x] w fun e w' => e = .returned (.int .i64 1) ∧ Below w.heap.size w w' := by
  go_enter Tryz.func97, Tryz.ntmps97
  go_wp2
  go_ret
  refine ⟨rfl, ?_⟩
  (repeat' (first | assumption | exact Below.refl _ _ | exact Below.size (by assumption) | (refine Below.setCell ?_ ?_ _) | (refine Below.alloc ?_ ?_ _) | (refine Below.drew ?_) | (refine below_drewN ?_ _) | (refine Below.trans ?_ (Below.mono ‹Below _ _ _› ?_)) | omega | (simp; done) | (simp; omega) | (simp at *; omega)))
theorem pcmp_eq (a b x : Int) (h : a = x) (w : World) : Calls Tryz.prog 97 #[.agg #[.int .i64 a, .int .i64 b], .int .i64 x] w fun e w' => e = .returned (.int .i64 0) ∧ Below w.heap.size w w' := by
  subst h
  go_enter Tryz.func97, Tryz.ntmps97
  go_wp2
  go_ret
  refine ⟨rfl, ?_⟩
  (repeat' (first | assumption | exact Below.refl _ _ | exact Below.size (by assumption) | (refine Below.setCell ?_ ?_ _) | (refine Below.alloc ?_ ?_ _) | (refine Below.drew ?_) | (refine below_drewN ?_ _) | (refine Below.trans ?_ (Below.mono ‹Below _ _ _› ?_)) | omega | (simp; done) | (simp; omega) | (simp at *; omega)))

/-- Where the search ends: all knots before k are below x, all from k on are not. -/
def SearchAt (n : Nat) (X : Nat → Int) (x : Int) (k : Nat) : Prop := k ≤ n ∧ (∀ j, j < k → X j < x) ∧ (∀ j, k ≤ j → j < n → x ≤ X j)

theorem SearchAt.below {n k m : Nat} {X : Nat → Int} {x : Int} (h : SearchAt n X x k) (hm : m < n) (hx : X m < x) : m < k := by
  apply Nat.lt_of_not_le
  intro hk
  have := h.2.2 m hk hm
  omega
theorem SearchAt.above {n k m : Nat} {X : Nat → Int} {x : Int} (h : SearchAt n X x k) (hx : x ≤ X m) : k ≤ m := by
  apply Nat.le_of_not_lt
  intro hk
  have := h.2.1 m hk
  omega

set_option maxHeartbeats 2000000 in
theorem bsearch (b off n c k : Nat) (X Y : Nat → Int) (x : Int) (w : World) (h1 : 1 ≤ n) (h2 : n ≤ 100) (ht : TabAt w b off n X Y) (hs : SearchAt n X x k) (f : Bool) (hf : Hid (f = (decide (k < n) && decide (X k = x)))) :
    Calls Tryz.prog 96 #[.slice (some ⟨b, off, none⟩) n c, .int .i64 x, .func (.func 97) #[] #[]] w fun e w' => e = .returned (.tuple #[.int .i64 (k : Int), .bool f]) ∧ Below w.heap.size w w' := by
  have HS := Lib.hid hs
  have HT := Lib.hid ht
  have hb := ht.1
  have hkn := hs.1
  clear ht hs
  go_enter Tryz.func96, Tryz.ntmps96
  go_wp2_with fail
  go_loopw [9, 10] (fun p q wr => ∃ i j : Nat, i ≤ k ∧ k ≤ j ∧ j ≤ n ∧ p = .int .i64 i ∧ q = .int .i64 j ∧ Below w.heap.size w wr) (fun p q _ => (intOf q - intOf p).toNat)
  case atStart => exact ⟨0, n, Nat.zero_le _, hkn, Nat.le_refl _, rfl, rfl, Below.refl _ _⟩
  case round =>
    obtain ⟨i, j, hi, hj, hjn, rfl, rfl, hbw⟩ := hrel
    have hT := HT.out.below hbw hb
    have hbwr := hT.1
    have HT' := Lib.hid hT
    clear hT
    by_cases hlt : i < j
    · obtain ⟨m, hm1, hm2, hme⟩ : ∃ m, i ≤ m ∧ m < j ∧ m = (i + j) / 2 := ⟨(i + j) / 2, by omega, by omega, rfl⟩
      have hc := HT'.out.2 m (by omega)
      have hcx := hc.1
      have hcy := hc.2
      have hmn : m < n := by omega
      have e1 : ((i : Int) + (j : Int)) / 2 = (m : Int) := by omega
      have e2 : (i + j) / 2 = m := by omega
      clear hme hc
      rcases Int.lt_trichotomy (X m) x with hx | hx | hx
      · have hmk := HS.out.below hmn hx
        go_wp2_with (first | (go_at_call 97; (with_reducible refine (pcmp_lt _ _ _ hx _).mono ?_); rintro e w1 ⟨rfl, hb1⟩; obtain ⟨hc1, hf1⟩ := bcell hb1; have hz1 := hb1.size; (try simp at hz1); (try simp only [heap_drew, World.heap_drewN] at hz1); (try simp only [heap_drew, World.heap_drewN] at hc1); (try simp only [heap_drew, World.heap_drewN] at hf1); (try have hs1 := Nat.lt_of_succ_le hz1); (try have hs2 := Nat.lt_of_succ_lt hs1); (try have y0 : w.heap.size < w1.heap.size := by omega); (try have y1 : w.heap.size + 1 < w1.heap.size := by omega); (try have y2 : w.heap.size + 2 < w1.heap.size := by omega)))
        go_roundw
        case rel => exact ⟨m + 1, j, by omega, by omega, by omega, by go_num, rfl, by (repeat' (first | assumption | exact Below.refl _ _ | exact Below.size (by assumption) | (refine Below.setCell ?_ ?_ _) | (refine Below.alloc ?_ ?_ _) | (refine Below.drew ?_) | (refine below_drewN ?_ _) | (refine Below.trans ?_ (Below.mono ‹Below _ _ _› ?_)) | omega | (simp; done) | (simp; omega) | (simp at *; omega)))⟩
        case measure => simp [intOf]; omega
      · have hmk := HS.out.above (m := m) (by omega)
        have Hx := Lib.hid hx
        clear hx
        go_wp2_with (first | (go_at_call 97; (with_reducible refine (pcmp_eq _ _ _ Hx.out _).mono ?_); rintro e w1 ⟨rfl, hb1⟩; obtain ⟨hc1, hf1⟩ := bcell hb1; have hz1 := hb1.size; (try simp at hz1); (try simp only [heap_drew, World.heap_drewN] at hz1); (try simp only [heap_drew, World.heap_drewN] at hc1); (try simp only [heap_drew, World.heap_drewN] at hf1); (try have hs1 := Nat.lt_of_succ_le hz1); (try have hs2 := Nat.lt_of_succ_lt hs1); (try have y0 : w.heap.size < w1.heap.size := by omega); (try have y1 : w.heap.size + 1 < w1.heap.size := by omega); (try have y2 : w.heap.size + 2 < w1.heap.size := by omega)))
        go_roundw
        case rel => exact ⟨i, m, by omega, by omega, by omega, rfl, rfl, by (repeat' (first | assumption | exact Below.refl _ _ | exact Below.size (by assumption) | (refine Below.setCell ?_ ?_ _) | (refine Below.alloc ?_ ?_ _) | (refine Below.drew ?_) | (refine below_drewN ?_ _) | (refine Below.trans ?_ (Below.mono ‹Below _ _ _› ?_)) | omega | (simp; done) | (simp; omega) | (simp at *; omega)))⟩
        case measure => simp [intOf]; omega
      · have hmk := HS.out.above (m := m) (by omega)
        go_wp2_with (first | (go_at_call 97; (with_reducible refine (pcmp_gt _ _ _ hx _).mono ?_); rintro e w1 ⟨rfl, hb1⟩; obtain ⟨hc1, hf1⟩ := bcell hb1; have hz1 := hb1.size; (try simp at hz1); (try simp only [heap_drew, World.heap_drewN] at hz1); (try simp only [heap_drew, World.heap_drewN] at hc1); (try simp only [heap_drew, World.heap_drewN] at hf1); (try have hs1 := Nat.lt_of_succ_le hz1); (try have hs2 := Nat.lt_of_succ_lt hs1); (try have y0 : w.heap.size < w1.heap.size := by omega); (try have y1 : w.heap.size + 1 < w1.heap.size := by omega); (try have y2 : w.heap.size + 2 < w1.heap.size := by omega)))
        go_roundw
        case rel => exact ⟨i, m, by omega, by omega, by omega, rfl, rfl, by (repeat' (first | assumption | exact Below.refl _ _ | exact Below.size (by assumption) | (refine Below.setCell ?_ ?_ _) | (refine Below.alloc ?_ ?_ _) | (refine Below.drew ?_) | (refine below_drewN ?_ _) | (refine Below.trans ?_ (Below.mono ‹Below _ _ _› ?_)) | omega | (simp; done) | (simp; omega) | (simp at *; omega)))⟩
        case measure => simp [intOf]; omega
    · obtain rfl : i = k := by omega
      obtain rfl : j = i := by omega
      by_cases hjn' : j < n
      · have hc := HT'.out.2 j hjn'
        have hcx := hc.1
        have hcy := hc.2
        clear hc hi hj hlt
        have hle := HS.out.2.2 j (Nat.le_refl _) hjn'
        by_cases hx : X j = x
        · obtain rfl : f = true := by rw [hf.out]; simp [hjn', hx]
          have Hx := Lib.hid hx
          clear hx hle
          go_wp2_with (first | (go_at_call 97; (with_reducible refine (pcmp_eq _ _ _ Hx.out _).mono ?_); rintro e w1 ⟨rfl, hb1⟩; obtain ⟨hc1, hf1⟩ := bcell hb1; have hz1 := hb1.size; (try simp at hz1); (try simp only [heap_drew, World.heap_drewN] at hz1); (try simp only [heap_drew, World.heap_drewN] at hc1); (try simp only [heap_drew, World.heap_drewN] at hf1); (try have hs1 := Nat.lt_of_succ_le hz1); (try have hs2 := Nat.lt_of_succ_lt hs1); (try have y0 : w.heap.size < w1.heap.size := by omega); (try have y1 : w.heap.size + 1 < w1.heap.size := by omega); (try have y2 : w.heap.size + 2 < w1.heap.size := by omega)))
          go_ret2
          refine ⟨rfl, ?_⟩
          (repeat' (first | assumption | exact Below.refl _ _ | exact Below.size (by assumption) | (refine Below.setCell ?_ ?_ _) | (refine Below.alloc ?_ ?_ _) | (refine Below.drew ?_) | (refine below_drewN ?_ _) | (refine Below.trans ?_ (Below.mono ‹Below _ _ _› ?_)) | omega | (simp; done) | (simp; omega) | (simp at *; omega)))
        · obtain rfl : f = false := by rw [hf.out]; simp [hjn', hx]
          have hx' : x < X j := by omega
          clear hx hle
          go_wp2_with (first | (go_at_call 97; (with_reducible refine (pcmp_gt _ _ _ hx' _).mono ?_); rintro e w1 ⟨rfl, hb1⟩; obtain ⟨hc1, hf1⟩ := bcell hb1; have hz1 := hb1.size; (try simp at hz1); (try simp only [heap_drew, World.heap_drewN] at hz1); (try simp only [heap_drew, World.heap_drewN] at hc1); (try simp only [heap_drew, World.heap_drewN] at hf1); (try have hs1 := Nat.lt_of_succ_le hz1); (try have hs2 := Nat.lt_of_succ_lt hs1); (try have y0 : w.heap.size < w1.heap.size := by omega); (try have y1 : w.heap.size + 1 < w1.heap.size := by omega); (try have y2 : w.heap.size + 2 < w1.heap.size := by omega)))
          go_ret2
          refine ⟨rfl, ?_⟩
          (repeat' (first | assumption | exact Below.refl _ _ | exact Below.size (by assumption) | (refine Below.setCell ?_ ?_ _) | (refine Below.alloc ?_ ?_ _) | (refine Below.drew ?_) | (refine below_drewN ?_ _) | (refine Below.trans ?_ (Below.mono ‹Below _ _ _› ?_)) | omega | (simp; done) | (simp; omega) | (simp at *; omega)))
      · obtain rfl : f = false := by rw [hf.out]; simp [hjn']
        obtain rfl : j = n := by omega
        go_wp2_with fail
        go_ret2
        refine ⟨rfl, ?_⟩
        (repeat' (first | assumption | exact Below.refl _ _ | exact Below.size (by assumption) | (refine Below.setCell ?_ ?_ _) | (refine Below.alloc ?_ ?_ _) | (refine Below.drew ?_) | (refine below_drewN ?_ _) | (refine Below.trans ?_ (Below.mono ‹Below _ _ _› ?_)) | omega | (simp; done) | (simp; omega) | (simp at *; omega)))
end Go.Proofs.YthbdeaglncoanaaGreatDoor

/- Merged texts of these proofs: Cat, Root2, Circ, Circle, Piece, PieceTwo, Val, Floor, RefA, RefB, RefC, Curve, Sec, Cap, Area, RefD, RefL, SameT, Inv. -/
import Derived.Test.YtapfmbnppeonkaaGreatDoorWide
import Derived.LoopTactic
import Derived.Test.YtapfmbnppeonkaaGreatDoorTab
import Derived.Test.YtapfmbnppeonkaaGreatDoorName
import Derived.Test.YtapfmbnppeonkaaGreatDoorTabTwo
import Derived.Maps.AppendAt
import Derived.Deep.AppendLies
import Derived.Laws.OwnMore
import Derived.OwnWalk
import Derived.Deep.CutRange
import Derived.Deep.Cut
import Derived.Test.YtapfmbnppeonkaaGreatDoorWideTwo
import Derived.RegionTactic
import Derived.Deep.RegionWith
import Derived.BigQuiet
namespace Go.Proofs.YtapfmbnppeonkaaGreatDoor
open Go.RowKit
set_option linter.unusedVariables false
set_option linter.unusedSimpArgs false

end Go.Proofs.YtapfmbnppeonkaaGreatDoor

namespace Go.Proofs.YtapfmbnppeonkaaGreatDoor
open Go.RowKit
set_option linter.unusedVariables false
set_option linter.unusedSimpArgs false

end Go.Proofs.YtapfmbnppeonkaaGreatDoor

namespace Go.Proofs.YtapfmbnppeonkaaGreatDoor.Circ

def cd (S P i : Nat) : Nat := S * i / P
def cw (S P i : Nat) : Nat := Num.isq (4 * cd S P i * (S - cd S P i))
def cs (S P i : Nat) : Nat := cd S P (i + 1) - cd S P i
def ch (S P i : Nat) : Nat := ((cw S P (i + 1) - cw S P i) + (cw S P i - cw S P (i + 1))) / 2
def ca (S P : Nat) : Nat → Nat
  | 0 => 0
  | i + 1 => ca S P i + (cw S P i + cw S P (i + 1)) * cs S P i / 2
set_option linter.unusedVariables false
end Go.Proofs.YtapfmbnppeonkaaGreatDoor.Circ

namespace Go.Proofs.YtapfmbnppeonkaaGreatDoor
open Go.RowKit
set_option linter.unusedVariables false
set_option linter.unusedSimpArgs false

section
variable {w w' : World} {g : Nat} {t : TypeId} {cs : Array Value}
end
def knots (X Y : Nat → Nat) (n : Nat) : List Value := (List.range n).flatMap fun j => [.int .i64 (X j), .int .i64 (Y j)]
theorem info39 : (Tryz.prog.info? 49).map (fun i => (i.zero, i.size, i.bytes)) = some (some (.agg #[.int .i64 0, .int .i64 0]), 2, 16) := by kernel_rfl

end Go.Proofs.YtapfmbnppeonkaaGreatDoor

namespace Go.Proofs.YtapfmbnppeonkaaGreatDoor
open Go.RowKit
set_option linter.unusedVariables false
set_option linter.unusedSimpArgs false

theorem pcmp_lt (a b x : Int) (h : a < x) (w : World) : Calls Tryz.prog 52 #[.agg #[.int .i64 a, .int .i64 b], .int .i64 x] w fun e w' => e = .returned (.int .i64 (-1)) ∧ Below w.heap.size w w' := by
  go_enter Tryz.func52, Tryz.ntmps52
  go_wp2
  go_ret
  refine ⟨rfl, ?_⟩
  (repeat' (first | assumption | exact Below.refl _ _ | exact Below.size (by assumption) | (refine Below.setCell ?_ ?_ _) | (refine Below.alloc ?_ ?_ _) | (refine Below.drew ?_) | (refine below_drewN ?_ _) | (refine Below.trans ?_ (Below.mono ‹Below _ _ _› ?_)) | omega | (simp; done) | (simp; omega) | (simp at *; omega)))
theorem pcmp_gt (a b x : Int) (h : x < a) (w : World) : Calls Tryz.prog 52 #[.agg #[.int .i64 a, .int .i64 b], .int .i64 x] w fun e w' => e = .returned (.int .i64 1) ∧ Below w.heap.size w w' := by
  go_enter Tryz.func52, Tryz.ntmps52
  go_wp2
  go_ret
  refine ⟨rfl, ?_⟩
  (repeat' (first | assumption | exact Below.refl _ _ | exact Below.size (by assumption) | (refine Below.setCell ?_ ?_ _) | (refine Below.alloc ?_ ?_ _) | (refine Below.drew ?_) | (refine below_drewN ?_ _) | (refine Below.trans ?_ (Below.mono ‹Below _ _ _› ?_)) | omega | (simp; done) | (simp; omega) | (simp at *; omega)))
theorem pcmp_eq (a b x : Int) (h : a = x) (w : World) : Calls Tryz.prog 52 #[.agg #[.int .i64 a, .int .i64 b], .int .i64 x] w fun e w' => e = .returned (.int .i64 0) ∧ Below w.heap.size w w' := by
  subst h
  go_enter Tryz.func52, Tryz.ntmps52
  go_wp2
  go_ret
  refine ⟨rfl, ?_⟩
  (repeat' (first | assumption | exact Below.refl _ _ | exact Below.size (by assumption) | (refine Below.setCell ?_ ?_ _) | (refine Below.alloc ?_ ?_ _) | (refine Below.drew ?_) | (refine below_drewN ?_ _) | (refine Below.trans ?_ (Below.mono ‹Below _ _ _› ?_)) | omega | (simp; done) | (simp; omega) | (simp at *; omega)))

/-- Where the search ends: all knots before k are below x, all from k on are not. -/
def SearchAt (n : Nat) (X : Nat → Int) (x : Int) (k : Nat) : Prop := k ≤ n ∧ (∀ j, j < k → X j < x) ∧ (∀ j, k ≤ j → j < n → x ≤ X j)

theorem SearchAt.below {n k m : Nat} {X : Nat → Int} {x : Int} (h : SearchAt n X x k) (hm : m < n) (hx : X m < x) : m < k := by
  apply Nat.lt_of_not_le
  intro hk
  have := h.2.2 m hk hm
  omega
theorem SearchAt.above {n k m : Nat} {X : Nat → Int} {x : Int} (h : SearchAt n X x k) (hx : x ≤ X m) : k ≤ m := by
  apply Nat.le_of_not_lt
  intro hk
  have := h.2.1 m hk
  omega

set_option maxHeartbeats 2000000 in
theorem bsearch (b off n c k : Nat) (X Y : Nat → Int) (x : Int) (w : World) (h1 : 1 ≤ n) (h2 : n ≤ 100) (ht : TabAt w b off n X Y) (hs : SearchAt n X x k) (f : Bool) (hf : Hid (f = (decide (k < n) && decide (X k = x)))) :
    Calls Tryz.prog 51 #[.slice (some ⟨b, off, none⟩) n c, .int .i64 x, .func (.func 52) #[] #[]] w fun e w' => e = .returned (.tuple #[.int .i64 (k : Int), .bool f]) ∧ Below w.heap.size w w' := by
  have HS := Lib.hid hs
  have HT := Lib.hid ht
  have hb := ht.1
  have hkn := hs.1
  clear ht hs
  go_enter Tryz.func51, Tryz.ntmps51
  go_wp2_with fail
  go_loopw [9, 10] (fun p q wr => ∃ i j : Nat, i ≤ k ∧ k ≤ j ∧ j ≤ n ∧ p = .int .i64 i ∧ q = .int .i64 j ∧ Below w.heap.size w wr) (fun p q _ => (intOf q - intOf p).toNat)
  case atStart => exact ⟨0, n, Nat.zero_le _, hkn, Nat.le_refl _, rfl, rfl, Below.refl _ _⟩
  case round =>
    obtain ⟨i, j, hi, hj, hjn, rfl, rfl, hbw⟩ := hrel
    have hT := HT.out.below hbw hb
    have hbwr := hT.1
    have HT' := Lib.hid hT
    clear hT
    by_cases hlt : i < j
    · obtain ⟨m, hm1, hm2, hme⟩ : ∃ m, i ≤ m ∧ m < j ∧ m = (i + j) / 2 := ⟨(i + j) / 2, by omega, by omega, rfl⟩
      have hc := HT'.out.2 m (by omega)
      have hcx := hc.1
      have hcy := hc.2
      have hmn : m < n := by omega
      have e1 : ((i : Int) + (j : Int)) / 2 = (m : Int) := by omega
      have e2 : (i + j) / 2 = m := by omega
      clear hme hc
      rcases Int.lt_trichotomy (X m) x with hx | hx | hx
      · have hmk := HS.out.below hmn hx
        go_wp2_with (first | (go_at_call 52; (with_reducible refine (pcmp_lt _ _ _ hx _).mono ?_); rintro e w1 ⟨rfl, hb1⟩; obtain ⟨hc1, hf1⟩ := bcell hb1; have hz1 := hb1.size; (try simp at hz1); (try simp only [heap_drew, World.heap_drewN] at hz1); (try simp only [heap_drew, World.heap_drewN] at hc1); (try simp only [heap_drew, World.heap_drewN] at hf1); (try have hs1 := Nat.lt_of_succ_le hz1); (try have hs2 := Nat.lt_of_succ_lt hs1); (try have y0 : w.heap.size < w1.heap.size := by omega); (try have y1 : w.heap.size + 1 < w1.heap.size := by omega); (try have y2 : w.heap.size + 2 < w1.heap.size := by omega)))
        go_roundw
        case rel => exact ⟨m + 1, j, by omega, by omega, by omega, by go_num, rfl, by (repeat' (first | assumption | exact Below.refl _ _ | exact Below.size (by assumption) | (refine Below.setCell ?_ ?_ _) | (refine Below.alloc ?_ ?_ _) | (refine Below.drew ?_) | (refine below_drewN ?_ _) | (refine Below.trans ?_ (Below.mono ‹Below _ _ _› ?_)) | omega | (simp; done) | (simp; omega) | (simp at *; omega)))⟩
        case measure => simp [intOf]; omega
      · have hmk := HS.out.above (m := m) (by omega)
        have Hx := Lib.hid hx
        clear hx
        go_wp2_with (first | (go_at_call 52; (with_reducible refine (pcmp_eq _ _ _ Hx.out _).mono ?_); rintro e w1 ⟨rfl, hb1⟩; obtain ⟨hc1, hf1⟩ := bcell hb1; have hz1 := hb1.size; (try simp at hz1); (try simp only [heap_drew, World.heap_drewN] at hz1); (try simp only [heap_drew, World.heap_drewN] at hc1); (try simp only [heap_drew, World.heap_drewN] at hf1); (try have hs1 := Nat.lt_of_succ_le hz1); (try have hs2 := Nat.lt_of_succ_lt hs1); (try have y0 : w.heap.size < w1.heap.size := by omega); (try have y1 : w.heap.size + 1 < w1.heap.size := by omega); (try have y2 : w.heap.size + 2 < w1.heap.size := by omega)))
        go_roundw
        case rel => exact ⟨i, m, by omega, by omega, by omega, rfl, rfl, by (repeat' (first | assumption | exact Below.refl _ _ | exact Below.size (by assumption) | (refine Below.setCell ?_ ?_ _) | (refine Below.alloc ?_ ?_ _) | (refine Below.drew ?_) | (refine below_drewN ?_ _) | (refine Below.trans ?_ (Below.mono ‹Below _ _ _› ?_)) | omega | (simp; done) | (simp; omega) | (simp at *; omega)))⟩
        case measure => simp [intOf]; omega
      · have hmk := HS.out.above (m := m) (by omega)
        go_wp2_with (first | (go_at_call 52; (with_reducible refine (pcmp_gt _ _ _ hx _).mono ?_); rintro e w1 ⟨rfl, hb1⟩; obtain ⟨hc1, hf1⟩ := bcell hb1; have hz1 := hb1.size; (try simp at hz1); (try simp only [heap_drew, World.heap_drewN] at hz1); (try simp only [heap_drew, World.heap_drewN] at hc1); (try simp only [heap_drew, World.heap_drewN] at hf1); (try have hs1 := Nat.lt_of_succ_le hz1); (try have hs2 := Nat.lt_of_succ_lt hs1); (try have y0 : w.heap.size < w1.heap.size := by omega); (try have y1 : w.heap.size + 1 < w1.heap.size := by omega); (try have y2 : w.heap.size + 2 < w1.heap.size := by omega)))
        go_roundw
        case rel => exact ⟨i, m, by omega, by omega, by omega, rfl, rfl, by (repeat' (first | assumption | exact Below.refl _ _ | exact Below.size (by assumption) | (refine Below.setCell ?_ ?_ _) | (refine Below.alloc ?_ ?_ _) | (refine Below.drew ?_) | (refine below_drewN ?_ _) | (refine Below.trans ?_ (Below.mono ‹Below _ _ _› ?_)) | omega | (simp; done) | (simp; omega) | (simp at *; omega)))⟩
        case measure => simp [intOf]; omega
    · obtain rfl : i = k := by omega
      obtain rfl : j = i := by omega
      by_cases hjn' : j < n
      · have hc := HT'.out.2 j hjn'
        have hcx := hc.1
        have hcy := hc.2
        clear hc hi hj hlt
        have hle := HS.out.2.2 j (Nat.le_refl _) hjn'
        by_cases hx : X j = x
        · obtain rfl : f = true := by rw [hf.out]; simp [hjn', hx]
          have Hx := Lib.hid hx
          clear hx hle
          go_wp2_with (first | (go_at_call 52; (with_reducible refine (pcmp_eq _ _ _ Hx.out _).mono ?_); rintro e w1 ⟨rfl, hb1⟩; obtain ⟨hc1, hf1⟩ := bcell hb1; have hz1 := hb1.size; (try simp at hz1); (try simp only [heap_drew, World.heap_drewN] at hz1); (try simp only [heap_drew, World.heap_drewN] at hc1); (try simp only [heap_drew, World.heap_drewN] at hf1); (try have hs1 := Nat.lt_of_succ_le hz1); (try have hs2 := Nat.lt_of_succ_lt hs1); (try have y0 : w.heap.size < w1.heap.size := by omega); (try have y1 : w.heap.size + 1 < w1.heap.size := by omega); (try have y2 : w.heap.size + 2 < w1.heap.size := by omega)))
          go_ret2
          refine ⟨rfl, ?_⟩
          (repeat' (first | assumption | exact Below.refl _ _ | exact Below.size (by assumption) | (refine Below.setCell ?_ ?_ _) | (refine Below.alloc ?_ ?_ _) | (refine Below.drew ?_) | (refine below_drewN ?_ _) | (refine Below.trans ?_ (Below.mono ‹Below _ _ _› ?_)) | omega | (simp; done) | (simp; omega) | (simp at *; omega)))
        · obtain rfl : f = false := by rw [hf.out]; simp [hjn', hx]
          have hx' : x < X j := by omega
          clear hx hle
          go_wp2_with (first | (go_at_call 52; (with_reducible refine (pcmp_gt _ _ _ hx' _).mono ?_); rintro e w1 ⟨rfl, hb1⟩; obtain ⟨hc1, hf1⟩ := bcell hb1; have hz1 := hb1.size; (try simp at hz1); (try simp only [heap_drew, World.heap_drewN] at hz1); (try simp only [heap_drew, World.heap_drewN] at hc1); (try simp only [heap_drew, World.heap_drewN] at hf1); (try have hs1 := Nat.lt_of_succ_le hz1); (try have hs2 := Nat.lt_of_succ_lt hs1); (try have y0 : w.heap.size < w1.heap.size := by omega); (try have y1 : w.heap.size + 1 < w1.heap.size := by omega); (try have y2 : w.heap.size + 2 < w1.heap.size := by omega)))
          go_ret2
          refine ⟨rfl, ?_⟩
          (repeat' (first | assumption | exact Below.refl _ _ | exact Below.size (by assumption) | (refine Below.setCell ?_ ?_ _) | (refine Below.alloc ?_ ?_ _) | (refine Below.drew ?_) | (refine below_drewN ?_ _) | (refine Below.trans ?_ (Below.mono ‹Below _ _ _› ?_)) | omega | (simp; done) | (simp; omega) | (simp at *; omega)))
      · obtain rfl : f = false := by rw [hf.out]; simp [hjn']
        obtain rfl : j = n := by omega
        go_wp2_with fail
        go_ret2
        refine ⟨rfl, ?_⟩
        (repeat' (first | assumption | exact Below.refl _ _ | exact Below.size (by assumption) | (refine Below.setCell ?_ ?_ _) | (refine Below.alloc ?_ ?_ _) | (refine Below.drew ?_) | (refine below_drewN ?_ _) | (refine Below.trans ?_ (Below.mono ‹Below _ _ _› ?_)) | omega | (simp; done) | (simp; omega) | (simp at *; omega)))
end Go.Proofs.YtapfmbnppeonkaaGreatDoor

namespace Go.Proofs.YtapfmbnppeonkaaGreatDoor
open Go.RowKit
set_option linter.unusedVariables false
set_option linter.unusedSimpArgs false

theorem wminused (x y z : Nat) (hx : x < 1329227995784915872903807060280344576) (h : y ≤ x) (hz : z = x - y) (w : World) :
    Calls Tryz.prog 54 #[.agg #[.int .i64 (hiW x), .int .i64 (loW x)], .agg #[.int .i64 (hiW y), .int .i64 (loW y)]] w fun e w' => e = .returned (.tuple #[.agg #[.int .i64 (hiW z), .int .i64 (loW z)], .int .i64 0]) ∧ Below w.heap.size w w' := by
  subst hz
  rcases Nat.eq_zero_or_pos y with rfl | h0
  · exact wsub_zero x hx w
  · exact wsub_pos x y hx h h0 w

/-- What the piece's numbers satisfy, so that no product is too great. -/
theorem piece_bounds {U A D : Nat} (bU : U ≤ 2251799813685248) (bA : A < D) (bD : D ≤ 2251799813685248) :
    U * A < 1329227995784915872903807060280344576 ∧ U * A / 18446744073709551616 < D ∧ U * A / D < 9223372036854775808 ∧ (U * A + D - 1) / D < 9223372036854775808 ∧ U * A / D * D ≤ U * A ∧ U * A % D = U * A - U * A / D * D := by
  have h1 : U * A ≤ 2251799813685248 * A := Nat.mul_le_mul_right A bU
  have h2 : U * A / D ≤ U := by
    apply Nat.div_le_of_le_mul
    rw [Nat.mul_comm D U]
    exact Nat.mul_le_mul_left U (by omega)
  have h3 : (U * A + D - 1) / D < U + 2 := by
    rw [Nat.div_lt_iff_lt_mul (by omega), Nat.add_mul]
    have : U * A ≤ U * D := Nat.mul_le_mul_left U (by omega)
    omega
  have h4 := Nat.div_add_mod' (U * A) D
  have h5 := Nat.div_mul_le_self (U * A) D
  generalize U * A = P at *
  refine ⟨by omega, by omega, by omega, by omega, h5, ?_⟩
  omega

theorem piece_found (b off n c k : Nat) (X Y : Nat → Int) (x : Int) (w : World) (h1 : 1 ≤ n) (h2 : n ≤ 100) (ht : TabAt w b off n X Y) (hs : SearchAt n X x k) (hk : k < n) (hf : k = 0 ∨ X k = x) :
    Calls Tryz.prog 28 #[.slice (some ⟨b, off, none⟩) n c, .int .i64 x] w fun e w' => e = .returned (.tuple #[.int .i64 (Y k), .int .i64 0, .int .i64 1]) ∧ Below w.heap.size w w' := by
  obtain ⟨f, hff⟩ : ∃ f, Hid (f = (decide (k < n) && decide (X k = x))) := ⟨_, rfl⟩
  have C := Lib.hid fun w ht => bsearch b off n c k X Y x w h1 h2 ht hs f hff
  have HT := Lib.hid ht
  have hb := ht.1
  have hq : (f = true ∨ f = false ∧ k = 0) := by
    rcases hf with h | h
    · cases f with
      | true => exact .inl rfl
      | false => exact .inr ⟨rfl, h⟩
    · left; rw [hff.out]; simp [hk, h]
  clear ht hs hf hff
  have hy := (HT.out.2 k hk).2
  rcases hq with rfl | ⟨rfl, rfl⟩
  · go_enter Tryz.func28, Tryz.ntmps28
    go_wp2_with (first | ((go_at_call 51; (with_reducible refine (C.out _ HT.out).mono ?_); rintro e w1 ⟨rfl, hb1⟩; obtain ⟨hc1, hf1⟩ := bcell hb1; have hz1 := hb1.size; (try simp at hz1); (try simp only [heap_drew, World.heap_drewN] at hz1); (try simp only [heap_drew, World.heap_drewN] at hc1); (try simp only [heap_drew, World.heap_drewN] at hf1); (try have hs1 := Nat.lt_of_succ_le hz1); (try have hs2 := Nat.lt_of_succ_lt hs1); (try have y0 : w.heap.size < w1.heap.size := by omega); (try have y1 : w.heap.size + 1 < w1.heap.size := by omega); (try have y2 : w.heap.size + 2 < w1.heap.size := by omega))))
    go_ret3
    refine ⟨rfl, ?_⟩
    (repeat' (first | assumption | exact Below.refl _ _ | exact Below.size (by assumption) | (refine Below.setCell ?_ ?_ _) | (refine Below.alloc ?_ ?_ _) | (refine Below.drew ?_) | (refine below_drewN ?_ _) | (refine Below.trans ?_ (Below.mono ‹Below _ _ _› ?_)) | omega | (simp; done) | (simp; omega) | (simp at *; omega)))
  · go_enter Tryz.func28, Tryz.ntmps28
    go_wp2_with (first | ((go_at_call 51; (with_reducible refine (C.out _ HT.out).mono ?_); rintro e w1 ⟨rfl, hb1⟩; obtain ⟨hc1, hf1⟩ := bcell hb1; have hz1 := hb1.size; (try simp at hz1); (try simp only [heap_drew, World.heap_drewN] at hz1); (try simp only [heap_drew, World.heap_drewN] at hc1); (try simp only [heap_drew, World.heap_drewN] at hf1); (try have hs1 := Nat.lt_of_succ_le hz1); (try have hs2 := Nat.lt_of_succ_lt hs1); (try have y0 : w.heap.size < w1.heap.size := by omega); (try have y1 : w.heap.size + 1 < w1.heap.size := by omega); (try have y2 : w.heap.size + 2 < w1.heap.size := by omega))))
    go_ret3
    refine ⟨rfl, ?_⟩
    (repeat' (first | assumption | exact Below.refl _ _ | exact Below.size (by assumption) | (refine Below.setCell ?_ ?_ _) | (refine Below.alloc ?_ ?_ _) | (refine Below.drew ?_) | (refine below_drewN ?_ _) | (refine Below.trans ?_ (Below.mono ‹Below _ _ _› ?_)) | omega | (simp; done) | (simp; omega) | (simp at *; omega)))
theorem piece_end (b off n c : Nat) (X Y : Nat → Int) (x : Int) (w : World) (h1 : 1 ≤ n) (h2 : n ≤ 100) (ht : TabAt w b off n X Y) (hs : SearchAt n X x n) :
    Calls Tryz.prog 28 #[.slice (some ⟨b, off, none⟩) n c, .int .i64 x] w fun e w' => e = .returned (.tuple #[.int .i64 (Y (n - 1)), .int .i64 0, .int .i64 1]) ∧ Below w.heap.size w w' := by
  have C := Lib.hid fun w ht => bsearch b off n c n X Y x w h1 h2 ht hs false (by show false = _; simp)
  have HT := Lib.hid ht
  have hb := ht.1
  clear ht hs
  obtain ⟨m, rfl⟩ : ∃ m, n = m + 1 := ⟨n - 1, by omega⟩
  have hy := (HT.out.2 m (by omega)).2
  have e0 : ((m : Int) + 1 == 0) = false := by simp <;> omega
  go_enter Tryz.func28, Tryz.ntmps28
  go_wp2_with (first | ((go_at_call 51; (with_reducible refine (C.out _ HT.out).mono ?_); rintro e w1 ⟨rfl, hb1⟩; obtain ⟨hc1, hf1⟩ := bcell hb1; have hz1 := hb1.size; (try simp at hz1); (try simp only [heap_drew, World.heap_drewN] at hz1); (try simp only [heap_drew, World.heap_drewN] at hc1); (try simp only [heap_drew, World.heap_drewN] at hf1); (try have hs1 := Nat.lt_of_succ_le hz1); (try have hs2 := Nat.lt_of_succ_lt hs1); (try have y0 : w.heap.size < w1.heap.size := by omega); (try have y1 : w.heap.size + 1 < w1.heap.size := by omega); (try have y2 : w.heap.size + 2 < w1.heap.size := by omega))))
  go_ret3
  refine ⟨rfl, ?_⟩
  (repeat' (first | assumption | exact Below.refl _ _ | exact Below.size (by assumption) | (refine Below.setCell ?_ ?_ _) | (refine Below.alloc ?_ ?_ _) | (refine Below.drew ?_) | (refine below_drewN ?_ _) | (refine Below.trans ?_ (Below.mono ‹Below _ _ _› ?_)) | omega | (simp; done) | (simp; omega) | (simp at *; omega)))
set_option maxHeartbeats 2000000 in
theorem piece_mid (b off n c p U A D q r : Nat) (X Y : Nat → Int) (x : Int) (w : World) (h1 : 1 ≤ n) (h2 : n ≤ 100) (ht : TabAt w b off n X Y) (hs : SearchAt n X x (p + 1)) (hk : p + 1 < n) (hne : X (p + 1) ≠ x)
    (eU : IntKind.i64.wrap (Y (p + 1) - Y p) = (U : Int)) (eA : IntKind.i64.wrap (x - X p) = (A : Int)) (eD : IntKind.i64.wrap (X (p + 1) - X p) = (D : Int)) (bU : U ≤ 2251799813685248) (bA : A < D) (bD : D ≤ 2251799813685248)
    (hq : q = U * A / D) (hr : r = U * A % D) (eY : IntKind.i64.wrap (Y p + (q : Int)) = Y p + (q : Int)) :
    Calls Tryz.prog 28 #[.slice (some ⟨b, off, none⟩) n c, .int .i64 x] w fun e w' => e = .returned (.tuple #[.int .i64 (Y p + (q : Int)), .int .i64 (r : Int), .int .i64 (D : Int)]) ∧ Below w.heap.size w w' := by
  have C := Lib.hid fun w ht => bsearch b off n c (p + 1) X Y x w h1 h2 ht hs false (by show false = _; simp [hne])
  have HT := Lib.hid ht
  have hb := ht.1
  have e0 : ((p : Int) + 1 == 0) = false := by simp <;> omega
  have e1 : ((p : Int) + 1 == (n : Int)) = false := by simp <;> omega
  have e2 : IntKind.i64.wrap ((p : Int) + 1 - 1) = (p : Int) := by rw [IntKind.wrap_i64]; omega
  have e3 : IntKind.i64.wrap (p : Int) = (p : Int) := by rw [IntKind.wrap_i64]; omega
  have l1 : p < n := by omega
  have hy1 := (HT.out.2 p l1).1
  have hy2 := (HT.out.2 p l1).2
  have hk1 := (HT.out.2 (p + 1) hk).1
  have hk2 := (HT.out.2 (p + 1) hk).2
  have l2 : (p : Int) + 1 < (n : Int) := by omega
  have l3 : (0 : Int) ≤ (p : Int) + 1 := by omega
  clear ht hs
  go_enter Tryz.func28, Tryz.ntmps28
  go_wp2_with (first | ((go_at_call 51; (with_reducible refine (C.out _ HT.out).mono ?_); rintro e w1 ⟨rfl, hb1⟩; obtain ⟨hc1, hf1⟩ := bcell hb1; have hz1 := hb1.size; (try simp at hz1); (try simp only [heap_drew, World.heap_drewN] at hz1); (try simp only [heap_drew, World.heap_drewN] at hc1); (try simp only [heap_drew, World.heap_drewN] at hf1); (try have hs1 := Nat.lt_of_succ_le hz1); (try have hs2 := Nat.lt_of_succ_lt hs1); (try have y0 : w.heap.size < w1.heap.size := by omega); (try have y1 : w.heap.size + 1 < w1.heap.size := by omega); (try have y2 : w.heap.size + 2 < w1.heap.size := by omega)); have hbw := Nat.lt_of_lt_of_le hb hb1.size))
  have HB1 := Lib.hid hb1
  go_cut [9, 10] from 50 to 58 (fun s t wx => ∃ g h : Nat, s = .pointer (some ⟨g, 0, none⟩) ∧ t = .pointer (some ⟨h, 0, none⟩) ∧ g < wx.heap.size ∧ h < wx.heap.size ∧ wx.cell? ⟨g, 0, none⟩ = some (.int .i64 (X p)) ∧ wx.cell? ⟨g, 1, none⟩ = some (.int .i64 (Y p)) ∧ wx.cell? ⟨h, 0, none⟩ = some (.int .i64 (X (p + 1))) ∧ wx.cell? ⟨h, 1, none⟩ = some (.int .i64 (Y (p + 1))) ∧ Below w.heap.size w wx)
  case first =>
    go_region
    all_goals (go_wp2_with fail; go_meet)
    case rel => exact ⟨_, _, rfl, rfl, by simp [heap_drew] <;> omega, by simp [heap_drew] <;> omega, by simp, by simp, by simp, by simp, by (repeat' (first | assumption | exact Below.refl _ _ | exact Below.size (by assumption) | (refine Below.setCell ?_ ?_ _) | (refine Below.alloc ?_ ?_ _) | (refine Below.drew ?_) | (refine below_drewN ?_ _) | (refine Below.trans ?_ (Below.mono ‹Below _ _ _› ?_)) | omega | (simp; done) | (simp; omega) | (simp at *; omega)))⟩
    case rel => exact ⟨_, _, rfl, rfl, by simp [heap_drew] <;> omega, by simp [heap_drew] <;> omega, by simp, by simp, by simp, by simp, by (repeat' (first | assumption | exact Below.refl _ _ | exact Below.size (by assumption) | (refine Below.setCell ?_ ?_ _) | (refine Below.alloc ?_ ?_ _) | (refine Below.drew ?_) | (refine below_drewN ?_ _) | (refine Below.trans ?_ (Below.mono ‹Below _ _ _› ?_)) | omega | (simp; done) | (simp; omega) | (simp at *; omega)))⟩
  case rest =>
    obtain ⟨g, h, rfl, rfl, hg, hh, g0, g1, k0, k1, hbx⟩ := hcut
    have hzb := hbx.size
    clear hb1 hc1 hf1 hz1 hbw hy1 hy2 hk1 hk2
    obtain ⟨p1, p2, p3, p4, p5, p6⟩ := piece_bounds bU bA bD
    have S1 := Lib.hid fun w => wscale U A D q ((U * A + D - 1) / D) (by omega) (by omega) (by omega) p2 hq rfl (by rw [hq]; exact p3) p4 w
    have S2 := Lib.hid fun w => wproduct U A (by omega) (by omega) p1 w
    have S3 := Lib.hid fun w => wproduct q D (by rw [hq]; exact p3) (by omega) (by rw [hq]; omega) w
    have S4 := Lib.hid fun w => wminused (U * A) (q * D) r p1 (by rw [hq]; exact p5) (by rw [hr, hq]; exact p6) w
    have S5 := Lib.hid fun w => wint r (by have := Nat.mod_lt (U * A) (by omega : 0 < D); omega) w
    clear p1 p2 p3 p4 p5 p6 hq hr bU bA bD h1 h2 hk hne
    go_wp2_with fail
    go_quiet (fail)
    go_wp2_with (first | (go_at_call 35; (with_reducible refine (S1.out _).mono ?_); rintro e w1 ⟨rfl, hb1⟩; obtain ⟨hc1, hf1⟩ := bcell hb1; have hz1 := hb1.size; (try simp at hz1); (try simp only [heap_drew, World.heap_drewN] at hz1); (try simp only [heap_drew, World.heap_drewN] at hc1); (try simp only [heap_drew, World.heap_drewN] at hf1); (try have hs1 := Nat.lt_of_succ_le hz1); (try have hs2 := Nat.lt_of_succ_lt hs1); (try have y0 : w.heap.size < w1.heap.size := by omega); (try have y1 : w.heap.size + 1 < w1.heap.size := by omega); (try have y2 : w.heap.size + 2 < w1.heap.size := by omega); (try have yg : g < w1.heap.size := by omega); (try have yh : h < w1.heap.size := by omega)) | (go_at_call 53; (with_reducible refine (S2.out _).mono ?_); rintro e w1 ⟨rfl, hb1⟩; obtain ⟨hc1, hf1⟩ := bcell hb1; have hz1 := hb1.size; (try simp at hz1); (try simp only [heap_drew, World.heap_drewN] at hz1); (try simp only [heap_drew, World.heap_drewN] at hc1); (try simp only [heap_drew, World.heap_drewN] at hf1); (try have hs1 := Nat.lt_of_succ_le hz1); (try have hs2 := Nat.lt_of_succ_lt hs1); (try have y0 : w.heap.size < w1.heap.size := by omega); (try have y1 : w.heap.size + 1 < w1.heap.size := by omega); (try have y2 : w.heap.size + 2 < w1.heap.size := by omega); (try have yg : g < w1.heap.size := by omega); (try have yh : h < w1.heap.size := by omega)) | (go_at_call 53; (with_reducible refine (S3.out _).mono ?_); rintro e w1 ⟨rfl, hb1⟩; obtain ⟨hc1, hf1⟩ := bcell hb1; have hz1 := hb1.size; (try simp at hz1); (try simp only [heap_drew, World.heap_drewN] at hz1); (try simp only [heap_drew, World.heap_drewN] at hc1); (try simp only [heap_drew, World.heap_drewN] at hf1); (try have hs1 := Nat.lt_of_succ_le hz1); (try have hs2 := Nat.lt_of_succ_lt hs1); (try have y0 : w.heap.size < w1.heap.size := by omega); (try have y1 : w.heap.size + 1 < w1.heap.size := by omega); (try have y2 : w.heap.size + 2 < w1.heap.size := by omega); (try have yg : g < w1.heap.size := by omega); (try have yh : h < w1.heap.size := by omega)) | (go_at_call 54; (with_reducible refine (S4.out _).mono ?_); rintro e w1 ⟨rfl, hb1⟩; obtain ⟨hc1, hf1⟩ := bcell hb1; have hz1 := hb1.size; (try simp at hz1); (try simp only [heap_drew, World.heap_drewN] at hz1); (try simp only [heap_drew, World.heap_drewN] at hc1); (try simp only [heap_drew, World.heap_drewN] at hf1); (try have hs1 := Nat.lt_of_succ_le hz1); (try have hs2 := Nat.lt_of_succ_lt hs1); (try have y0 : w.heap.size < w1.heap.size := by omega); (try have y1 : w.heap.size + 1 < w1.heap.size := by omega); (try have y2 : w.heap.size + 2 < w1.heap.size := by omega); (try have yg : g < w1.heap.size := by omega); (try have yh : h < w1.heap.size := by omega)) | (go_at_call 55; (with_reducible refine (S5.out _).mono ?_); rintro e w1 ⟨rfl, hb1⟩; obtain ⟨hc1, hf1⟩ := bcell hb1; have hz1 := hb1.size; (try simp at hz1); (try simp only [heap_drew, World.heap_drewN] at hz1); (try simp only [heap_drew, World.heap_drewN] at hc1); (try simp only [heap_drew, World.heap_drewN] at hf1); (try have hs1 := Nat.lt_of_succ_le hz1); (try have hs2 := Nat.lt_of_succ_lt hs1); (try have y0 : w.heap.size < w1.heap.size := by omega); (try have y1 : w.heap.size + 1 < w1.heap.size := by omega); (try have y2 : w.heap.size + 2 < w1.heap.size := by omega); (try have yg : g < w1.heap.size := by omega); (try have yh : h < w1.heap.size := by omega)))
    go_ret3
    refine ⟨rfl, ?_⟩
    (repeat' (first | assumption | exact Below.refl _ _ | exact Below.size (by assumption) | (refine Below.setCell ?_ ?_ _) | (refine Below.alloc ?_ ?_ _) | (refine Below.drew ?_) | (refine below_drewN ?_ _) | (refine Below.trans ?_ (Below.mono ‹Below _ _ _› ?_)) | omega | (simp; done) | (simp; omega) | (simp at *; omega)))
end Go.Proofs.YtapfmbnppeonkaaGreatDoor

namespace Go.Proofs.YtapfmbnppeonkaaGreatDoor.Val

/-- The value on the piece from knot k on: the integer below, and the rest. -/
def fl (X Y : Nat → Int) (k : Nat) (x : Int) : Int := Y k + (Y (k + 1) - Y k) * (x - X k) / (X (k + 1) - X k)
def rs (X Y : Nat → Int) (k : Nat) (x : Int) : Int := (Y (k + 1) - Y k) * (x - X k) % (X (k + 1) - X k)
/-- The value of a table whose last knot is m. -/
def val (X Y : Nat → Int) : Nat → Int → Int
  | 0, _ => Y 0
  | m + 1, x => if X (m + 1) ≤ x then Y (m + 1) else if X m ≤ x then fl X Y m x else val X Y m x
def rst (X Y : Nat → Int) : Nat → Int → Int
  | 0, _ => 0
  | m + 1, x => if X (m + 1) ≤ x then 0 else if X m ≤ x then rs X Y m x else rst X Y m x
/-- The knots ascend, the values do not descend. -/
def Asc (X Y : Nat → Int) (m : Nat) : Prop := ∀ k, k < m → X k < X (k + 1) ∧ Y k ≤ Y (k + 1)
theorem Asc.mono {X Y : Nat → Int} {m i j : Nat} (h : Asc X Y m) (hj : j ≤ m) (hij : i ≤ j) : X i ≤ X j ∧ Y i ≤ Y j := by
  induction j with
  | zero => have : i = 0 := by omega
            subst this; exact ⟨Int.le_refl _, Int.le_refl _⟩
  | succ j ih =>
    rcases Nat.lt_or_ge i (j + 1) with h1 | h1
    · have h2 := ih (by omega) (by omega)
      have h3 := h j (by omega)
      omega
    · have : i = j + 1 := by omega
      subst this; exact ⟨Int.le_refl _, Int.le_refl _⟩
theorem Asc.lt {X Y : Nat → Int} {m i j : Nat} (h : Asc X Y m) (hj : j ≤ m) (hij : i < j) : X i < X j := by
  have h1 := h i (by omega)
  have h2 := (h.mono hj (by omega : i + 1 ≤ j)).1
  omega
theorem fl_left {X Y : Nat → Int} {k : Nat} : fl X Y k (X k) = Y k := by unfold fl; simp
theorem rs_left {X Y : Nat → Int} {k : Nat} : rs X Y k (X k) = 0 := by unfold rs; simp
theorem fl_right {X Y : Nat → Int} {k : Nat} (h : X k < X (k + 1)) : fl X Y k (X (k + 1)) = Y (k + 1) := by
  unfold fl; rw [Int.mul_ediv_cancel _ (by omega)]; omega
theorem fl_mono {X Y : Nat → Int} {k : Nat} {x y : Int} (hX : X k < X (k + 1)) (hY : Y k ≤ Y (k + 1)) (h : x ≤ y) : fl X Y k x ≤ fl X Y k y := by
  unfold fl
  have h1 : (Y (k + 1) - Y k) * (x - X k) ≤ (Y (k + 1) - Y k) * (y - X k) := Int.mul_le_mul_of_nonneg_left (by omega) (by omega)
  have h2 := Int.ediv_le_ediv (c := X (k + 1) - X k) (by omega) h1
  omega
/-- What a search finds. -/
theorem val_first {X Y : Nat → Int} {m : Nat} {x : Int} (ha : Asc X Y m) (hx : x ≤ X 0) : val X Y m x = Y 0 ∧ rst X Y m x = 0 := by
  induction m with
  | zero => exact ⟨rfl, rfl⟩
  | succ m ih =>
    have h1 := ha m (by omega)
    have h2 := (ha.mono (by omega : m ≤ m + 1) (Nat.zero_le m)).1
    have ih' := ih (fun k hk => ha k (by omega))
    have e1 : ¬ X (m + 1) ≤ x := by omega
    simp only [val, rst, if_neg e1]
    by_cases h3 : X m ≤ x
    · have hm : m = 0 := by
        rcases Nat.eq_zero_or_pos m with h | h
        · exact h
        · have := ha.lt (by omega : m ≤ m + 1) h; omega
      subst hm
      have : x = X 0 := by omega
      subst this
      simp only [if_pos h3]
      exact ⟨fl_left, rs_left⟩
    · simp only [if_neg h3]; exact ih'
theorem val_last {X Y : Nat → Int} {m : Nat} {x : Int} (hx : X m ≤ x) : val X Y m x = Y m ∧ rst X Y m x = 0 := by
  cases m with
  | zero => exact ⟨rfl, rfl⟩
  | succ m => simp only [val, rst, if_pos hx]; exact ⟨trivial, trivial⟩
theorem val_mid {X Y : Nat → Int} {m k : Nat} {x : Int} (ha : Asc X Y m) (hk : k < m) (h1 : X k ≤ x) (h2 : x < X (k + 1)) : val X Y m x = fl X Y k x ∧ rst X Y m x = rs X Y k x := by
  induction m with
  | zero => omega
  | succ m ih =>
    have h3 := (ha.mono (Nat.le_refl _) (by omega : k + 1 ≤ m + 1)).1
    have e1 : ¬ X (m + 1) ≤ x := by omega
    simp only [val, rst, if_neg e1]
    by_cases h4 : k = m
    · subst h4; simp only [if_pos h1]; exact ⟨trivial, trivial⟩
    · have h5 := (ha.mono (by omega : m ≤ m + 1) (by omega : k + 1 ≤ m)).1
      have e2 : ¬ X m ≤ x := by omega
      simp only [if_neg e2]
      exact ih (fun k hk => ha k (by omega)) (by omega)
theorem val_knot {X Y : Nat → Int} {m k : Nat} (ha : Asc X Y m) (hk : k ≤ m) : val X Y m (X k) = Y k ∧ rst X Y m (X k) = 0 := by
  rcases Nat.lt_or_ge k m with h | h
  · have := ha k h
    have h2 := val_mid (x := X k) ha h (Int.le_refl _) this.1
    rw [h2.1, h2.2, fl_left, rs_left]; exact ⟨rfl, rfl⟩
  · have : k = m := by omega
    subst this; exact val_last (Int.le_refl _)
/-- Every number lies before the first knot, behind the last one, or on a piece. -/
theorem where_ {X Y : Nat → Int} {m : Nat} (x : Int) (ha : Asc X Y m) : x ≤ X 0 ∨ X m ≤ x ∨ ∃ k, k < m ∧ X k ≤ x ∧ x < X (k + 1) := by
  induction m with
  | zero => omega
  | succ m ih =>
    rcases ih (fun k hk => ha k (by omega)) with h | h | ⟨k, hk, h1, h2⟩
    · exact .inl h
    · by_cases h3 : X (m + 1) ≤ x
      · exact .inr (.inl h3)
      · exact .inr (.inr ⟨m, by omega, h, by omega⟩)
    · exact .inr (.inr ⟨k, by omega, h1, h2⟩)
theorem fl_in {X Y : Nat → Int} {m k : Nat} {x : Int} (ha : Asc X Y m) (hk : k < m) (h1 : X k ≤ x) (h2 : x ≤ X (k + 1)) : Y k ≤ fl X Y k x ∧ fl X Y k x ≤ Y (k + 1) := by
  have h3 := ha k hk
  have e1 := fl_mono (Y := Y) h3.1 h3.2 h1
  have e2 := fl_mono (Y := Y) h3.1 h3.2 h2
  rw [fl_left] at e1
  rw [fl_right h3.1] at e2
  exact ⟨e1, e2⟩
theorem val_ge {X Y : Nat → Int} {m : Nat} {x : Int} (ha : Asc X Y m) : Y 0 ≤ val X Y m x := by
  rcases where_ x ha with hx | hx | ⟨k, hk, hx1, hx2⟩
  · rw [(val_first ha hx).1]; exact Int.le_refl _
  · rw [(val_last hx).1]; exact (ha.mono (Nat.le_refl m) (Nat.zero_le m)).2
  · rw [(val_mid ha hk hx1 hx2).1]
    have := (fl_in ha hk hx1 (by omega)).1
    have := (ha.mono (by omega : k ≤ m) (Nat.zero_le k)).2
    omega
theorem val_le {X Y : Nat → Int} {m : Nat} {x : Int} (ha : Asc X Y m) : val X Y m x ≤ Y m := by
  rcases where_ x ha with hx | hx | ⟨k, hk, hx1, hx2⟩
  · rw [(val_first ha hx).1]; exact (ha.mono (Nat.le_refl m) (Nat.zero_le m)).2
  · rw [(val_last hx).1]; exact Int.le_refl _
  · rw [(val_mid ha hk hx1 hx2).1]
    have := (fl_in ha hk hx1 (by omega)).2
    have := (ha.mono (Nat.le_refl m) (by omega : k + 1 ≤ m)).2
    omega
end Go.Proofs.YtapfmbnppeonkaaGreatDoor.Val

namespace Go.Proofs.YtapfmbnppeonkaaGreatDoor
open Go.RowKit
set_option linter.unusedVariables false
set_option linter.unusedSimpArgs false

theorem asc_of {m : Nat} {X Y : Nat → Int} (h : TabOK (m + 1) X Y) : Val.Asc X Y m := fun k hk => (h.2.2 (k + 1) (by omega)).2.2 (by omega)
theorem in_of {n k : Nat} {X Y : Nat → Int} (h : TabOK n X Y) (hk : k < n) : (-1125899906842624 ≤ X k ∧ X k ≤ 1125899906842624) ∧ (-1125899906842624 ≤ Y k ∧ Y k ≤ 1125899906842624) := ⟨(h.2.2 k hk).1, (h.2.2 k hk).2.1⟩

/-- What the search's piece gives is the table's value. -/
theorem tpiece (b off m c : Nat) (X Y : Nat → Int) (x : Int) (hv : TabOK (m + 1) X Y) :
    ∃ d : Int, ∀ w, TabAt w b off (m + 1) X Y → Calls Tryz.prog 28 #[.slice (some ⟨b, off, none⟩) (m + 1 : Nat) c, .int .i64 x] w fun e w' => e = .returned (.tuple #[.int .i64 (Val.val X Y m x), .int .i64 (Val.rst X Y m x), .int .i64 d]) ∧ Below w.heap.size w w' := by
  have ha := asc_of hv
  have h1 := hv.1
  have h2 := hv.2.1
  have found : ∀ k, k ≤ m → X k = x → ∀ w, TabAt w b off (m + 1) X Y → Calls Tryz.prog 28 #[.slice (some ⟨b, off, none⟩) (m + 1 : Nat) c, .int .i64 x] w fun e w' => e = .returned (.tuple #[.int .i64 (Val.val X Y m x), .int .i64 (Val.rst X Y m x), .int .i64 1]) ∧ Below w.heap.size w w' := fun k hk hx w ht => by
    subst hx
    rw [(Val.val_knot ha hk).1, (Val.val_knot ha hk).2]
    exact piece_found b off (m + 1) c k X Y (X k) w h1 h2 ht ⟨by omega, fun j hj => ha.lt hk hj, fun j hj hj' => (ha.mono (by omega) hj).1⟩ (by omega) (.inr rfl)
  rcases Val.where_ x ha with hx | hx | ⟨k, hk, hx1, hx2⟩
  · refine ⟨1, fun w ht => ?_⟩
    rw [(Val.val_first ha hx).1, (Val.val_first ha hx).2]
    exact piece_found b off (m + 1) c 0 X Y x w h1 h2 ht ⟨by omega, fun j hj => absurd hj (by omega), fun j hj hj' => by have := (ha.mono (by omega : j ≤ m) (Nat.zero_le j)).1; omega⟩ (by omega) (.inl rfl)
  · by_cases he : X m = x
    · exact ⟨1, found m (Nat.le_refl _) he⟩
    · refine ⟨1, fun w ht => ?_⟩
      rw [(Val.val_last hx).1, (Val.val_last hx).2]
      exact piece_end b off (m + 1) c X Y x w h1 h2 ht ⟨Nat.le_refl _, fun j hj => by have := (ha.mono (Nat.le_refl m) (by omega : j ≤ m)).1; omega, fun j hj hj' => absurd hj' (by omega)⟩
  · by_cases he : X k = x
    · exact ⟨1, found k (by omega) he⟩
    · have bk := in_of hv (by omega : k < m + 1)
      have bk1 := in_of hv (by omega : k + 1 < m + 1)
      have hk1 := ha k hk
      obtain ⟨U, hU⟩ : ∃ U : Nat, Y (k + 1) - Y k = (U : Int) := ⟨(Y (k + 1) - Y k).toNat, by omega⟩
      obtain ⟨A, hA⟩ : ∃ U : Nat, x - X k = (U : Int) := ⟨(x - X k).toNat, by omega⟩
      obtain ⟨D, hD⟩ : ∃ U : Nat, X (k + 1) - X k = (U : Int) := ⟨(X (k + 1) - X k).toNat, by omega⟩
      refine ⟨(D : Int), fun w ht => ?_⟩
      have e1 : Val.val X Y m x = Y k + ((U * A / D : Nat) : Int) := by
        rw [(Val.val_mid ha hk hx1 hx2).1]; unfold Val.fl; rw [hU, hA, hD]; rfl
      have e2 : Val.rst X Y m x = ((U * A % D : Nat) : Int) := by
        rw [(Val.val_mid ha hk hx1 hx2).2]; unfold Val.rs; rw [hU, hA, hD]; rfl
      have hq : U * A / D ≤ U := by
        apply Nat.div_le_of_le_mul
        rw [Nat.mul_comm D U]
        exact Nat.mul_le_mul_left U (by omega)
      rw [e1, e2]
      exact piece_mid b off (m + 1) c k U A D (U * A / D) (U * A % D) X Y x w h1 h2 ht
        ⟨by omega, fun j hj => by have := (ha.mono (by omega : k ≤ m) (by omega : j ≤ k)).1; omega, fun j hj hj' => by have := (ha.mono (by omega : j ≤ m) (by omega : k + 1 ≤ j)).1; omega⟩ (by omega) (by omega)
        (by rw [hU]; exact wrap_id (by omega) (by omega)) (by rw [hA]; exact wrap_id (by omega) (by omega)) (by rw [hD]; exact wrap_id (by omega) (by omega)) (by omega) (by omega) (by omega) rfl rfl
        (by have hb : (0 : Int) ≤ ((U * A / D : Nat) : Int) ∧ ((U * A / D : Nat) : Int) ≤ (U : Int) := ⟨Int.natCast_nonneg _, Int.ofNat_le.2 hq⟩
            generalize ((U * A / D : Nat) : Int) = q at hb ⊢
            exact wrap_id (by omega) (by omega))

theorem tfloor (b off m c : Nat) (X Y : Nat → Int) (x : Int) (hv : TabOK (m + 1) X Y) (w : World) (ht : TabAt w b off (m + 1) X Y) :
    Calls Tryz.prog 31 #[.slice (some ⟨b, off, none⟩) (m + 1 : Nat) c, .int .i64 x] w fun e w' => e = .returned (.tuple #[.int .i64 (Val.val X Y m x), .int .i64 0]) ∧ Below w.heap.size w w' := by
  obtain ⟨d, hd⟩ := tpiece b off m c X Y x hv
  have HD := Lib.hid hd
  have S := Lib.hid fun w ht => tvalid b off (m + 1) c X Y w hv.1 hv.2.1 ht
  have tv := tabB_true hv
  have HT := Lib.hid ht
  have hb := ht.1
  obtain ⟨v, hv2⟩ : ∃ v, v = Val.val X Y m x := ⟨_, rfl⟩
  obtain ⟨u, hu2⟩ : ∃ v, v = Val.rst X Y m x := ⟨_, rfl⟩
  rw [← hv2, ← hu2] at HD
  rw [← hv2]
  clear hd hv ht hv2 hu2
  go_enter Tryz.func31, Tryz.ntmps31
  go_wp2_with (first | (go_at_call 23; (with_reducible refine (S.out _ HT.out).mono ?_); rintro e w1 ⟨rfl, hb1⟩; obtain ⟨hc1, hf1⟩ := bcell hb1; have hz1 := hb1.size; (try simp at hz1); (try simp only [heap_drew, World.heap_drewN] at hz1); (try simp only [heap_drew, World.heap_drewN] at hc1); (try simp only [heap_drew, World.heap_drewN] at hf1); (try have hs1 := Nat.lt_of_succ_le hz1); (try have hs2 := Nat.lt_of_succ_lt hs1); (try have y0 : w.heap.size < w1.heap.size := by omega); (try have y1 : w.heap.size + 1 < w1.heap.size := by omega); (try have y2 : w.heap.size + 2 < w1.heap.size := by omega)) | (go_at_call 28; (with_reducible refine (HD.out _ ?_).mono ?_); (focus (exact HT.out.below hb1 hb)); rintro e w1 ⟨rfl, hb1⟩; obtain ⟨hc1, hf1⟩ := bcell hb1; have hz1 := hb1.size; (try simp at hz1); (try simp only [heap_drew, World.heap_drewN] at hz1); (try simp only [heap_drew, World.heap_drewN] at hc1); (try simp only [heap_drew, World.heap_drewN] at hf1); (try have hs1 := Nat.lt_of_succ_le hz1); (try have hs2 := Nat.lt_of_succ_lt hs1); (try have y0 : w.heap.size < w1.heap.size := by omega); (try have y1 : w.heap.size + 1 < w1.heap.size := by omega); (try have y2 : w.heap.size + 2 < w1.heap.size := by omega)))
  go_ret2
  refine ⟨rfl, ?_⟩
  (repeat' (first | assumption | exact Below.refl _ _ | exact Below.size (by assumption) | (refine Below.setCell ?_ ?_ _) | (refine Below.alloc ?_ ?_ _) | (refine Below.drew ?_) | (refine below_drewN ?_ _) | (refine Below.trans ?_ (Below.mono ‹Below _ _ _› ?_)) | omega | (simp; done) | (simp; omega) | (simp at *; omega)))
theorem tceil (b off m c : Nat) (X Y : Nat → Int) (x : Int) (hv : TabOK (m + 1) X Y) (w : World) (ht : TabAt w b off (m + 1) X Y) :
    Calls Tryz.prog 32 #[.slice (some ⟨b, off, none⟩) (m + 1 : Nat) c, .int .i64 x] w fun e w' => e = .returned (.tuple #[.int .i64 (Val.val X Y m x + if 0 < Val.rst X Y m x then 1 else 0), .int .i64 0]) ∧ Below w.heap.size w w' := by
  obtain ⟨d, hd⟩ := tpiece b off m c X Y x hv
  have HD := Lib.hid hd
  have S := Lib.hid fun w ht => tvalid b off (m + 1) c X Y w hv.1 hv.2.1 ht
  have tv := tabB_true hv
  have HT := Lib.hid ht
  have hb := ht.1
  have ha := asc_of hv
  have g1 := Val.val_ge (x := x) ha
  have g2 := Val.val_le (x := x) ha
  have g3 := in_of hv (by omega : 0 < m + 1)
  have g4 := in_of hv (by omega : m < m + 1)
  obtain ⟨v, hv2⟩ : ∃ v, v = Val.val X Y m x := ⟨_, rfl⟩
  obtain ⟨u, hu2⟩ : ∃ v, v = Val.rst X Y m x := ⟨_, rfl⟩
  rw [← hv2] at g1 g2
  have eW : IntKind.i64.wrap (v + 1) = v + 1 := wrap_id (by omega) (by omega)
  rw [← hv2, ← hu2] at HD
  rw [← hv2, ← hu2]
  clear hd hv ht hv2 hu2 g1 g2 g3 g4 ha
  by_cases hu : 0 < u
  · rw [if_pos hu]
    go_enter Tryz.func32, Tryz.ntmps32
    go_wp2_with (first | (go_at_call 23; (with_reducible refine (S.out _ HT.out).mono ?_); rintro e w1 ⟨rfl, hb1⟩; obtain ⟨hc1, hf1⟩ := bcell hb1; have hz1 := hb1.size; (try simp at hz1); (try simp only [heap_drew, World.heap_drewN] at hz1); (try simp only [heap_drew, World.heap_drewN] at hc1); (try simp only [heap_drew, World.heap_drewN] at hf1); (try have hs1 := Nat.lt_of_succ_le hz1); (try have hs2 := Nat.lt_of_succ_lt hs1); (try have y0 : w.heap.size < w1.heap.size := by omega); (try have y1 : w.heap.size + 1 < w1.heap.size := by omega); (try have y2 : w.heap.size + 2 < w1.heap.size := by omega)) | (go_at_call 28; (with_reducible refine (HD.out _ ?_).mono ?_); (focus (exact HT.out.below hb1 hb)); rintro e w1 ⟨rfl, hb1⟩; obtain ⟨hc1, hf1⟩ := bcell hb1; have hz1 := hb1.size; (try simp at hz1); (try simp only [heap_drew, World.heap_drewN] at hz1); (try simp only [heap_drew, World.heap_drewN] at hc1); (try simp only [heap_drew, World.heap_drewN] at hf1); (try have hs1 := Nat.lt_of_succ_le hz1); (try have hs2 := Nat.lt_of_succ_lt hs1); (try have y0 : w.heap.size < w1.heap.size := by omega); (try have y1 : w.heap.size + 1 < w1.heap.size := by omega); (try have y2 : w.heap.size + 2 < w1.heap.size := by omega)))
    go_ret2
    refine ⟨rfl, ?_⟩
    (repeat' (first | assumption | exact Below.refl _ _ | exact Below.size (by assumption) | (refine Below.setCell ?_ ?_ _) | (refine Below.alloc ?_ ?_ _) | (refine Below.drew ?_) | (refine below_drewN ?_ _) | (refine Below.trans ?_ (Below.mono ‹Below _ _ _› ?_)) | omega | (simp; done) | (simp; omega) | (simp at *; omega)))
  · rw [if_neg hu, Int.add_zero]
    go_enter Tryz.func32, Tryz.ntmps32
    go_wp2_with (first | (go_at_call 23; (with_reducible refine (S.out _ HT.out).mono ?_); rintro e w1 ⟨rfl, hb1⟩; obtain ⟨hc1, hf1⟩ := bcell hb1; have hz1 := hb1.size; (try simp at hz1); (try simp only [heap_drew, World.heap_drewN] at hz1); (try simp only [heap_drew, World.heap_drewN] at hc1); (try simp only [heap_drew, World.heap_drewN] at hf1); (try have hs1 := Nat.lt_of_succ_le hz1); (try have hs2 := Nat.lt_of_succ_lt hs1); (try have y0 : w.heap.size < w1.heap.size := by omega); (try have y1 : w.heap.size + 1 < w1.heap.size := by omega); (try have y2 : w.heap.size + 2 < w1.heap.size := by omega)) | (go_at_call 28; (with_reducible refine (HD.out _ ?_).mono ?_); (focus (exact HT.out.below hb1 hb)); rintro e w1 ⟨rfl, hb1⟩; obtain ⟨hc1, hf1⟩ := bcell hb1; have hz1 := hb1.size; (try simp at hz1); (try simp only [heap_drew, World.heap_drewN] at hz1); (try simp only [heap_drew, World.heap_drewN] at hc1); (try simp only [heap_drew, World.heap_drewN] at hf1); (try have hs1 := Nat.lt_of_succ_le hz1); (try have hs2 := Nat.lt_of_succ_lt hs1); (try have y0 : w.heap.size < w1.heap.size := by omega); (try have y1 : w.heap.size + 1 < w1.heap.size := by omega); (try have y2 : w.heap.size + 2 < w1.heap.size := by omega)))
    go_ret2
    refine ⟨rfl, ?_⟩
    (repeat' (first | assumption | exact Below.refl _ _ | exact Below.size (by assumption) | (refine Below.setCell ?_ ?_ _) | (refine Below.alloc ?_ ?_ _) | (refine Below.drew ?_) | (refine below_drewN ?_ _) | (refine Below.trans ?_ (Below.mono ‹Below _ _ _› ?_)) | omega | (simp; done) | (simp; omega) | (simp at *; omega)))
end Go.Proofs.YtapfmbnppeonkaaGreatDoor

namespace Go.Proofs.YtapfmbnppeonkaaGreatDoor
open Go.RowKit
set_option linter.unusedVariables false
set_option linter.unusedSimpArgs false

end Go.Proofs.YtapfmbnppeonkaaGreatDoor

namespace Go.Proofs.YtapfmbnppeonkaaGreatDoor
open Go.RowKit
set_option linter.unusedVariables false
set_option linter.unusedSimpArgs false

theorem Blk.two {w : World} {g : Nat} {t : TypeId} {a b x y : Value} (h : Blk w g t #[a, b]) : Blk ((w.setCell ⟨g, 0, none⟩ x).setCell ⟨g, 1, none⟩ y) g t #[x, y] := (h.set_ 0 x).set_ 1 y
end Go.Proofs.YtapfmbnppeonkaaGreatDoor

namespace Go.Proofs.YtapfmbnppeonkaaGreatDoor
open Go.RowKit
set_option linter.unusedVariables false
set_option linter.unusedSimpArgs false

end Go.Proofs.YtapfmbnppeonkaaGreatDoor

namespace Go.Proofs.YtapfmbnppeonkaaGreatDoor
open Go.RowKit
set_option linter.unusedVariables false
set_option linter.unusedSimpArgs false

end Go.Proofs.YtapfmbnppeonkaaGreatDoor

namespace Go.Proofs.YtapfmbnppeonkaaGreatDoor
open Go.RowKit
set_option linter.unusedVariables false
set_option linter.unusedSimpArgs false

end Go.Proofs.YtapfmbnppeonkaaGreatDoor

namespace Go.Proofs.YtapfmbnppeonkaaGreatDoor
open Go.RowKit
set_option linter.unusedVariables false
set_option linter.unusedSimpArgs false

end Go.Proofs.YtapfmbnppeonkaaGreatDoor

namespace Go.Proofs.YtapfmbnppeonkaaGreatDoor
open Go.RowKit
set_option linter.unusedVariables false
set_option linter.unusedSimpArgs false

/-- The value, rounded up. -/
def Val.cl (X Y : Nat → Int) (m : Nat) (x : Int) : Int := Val.val X Y m x + if 0 < Val.rst X Y m x then 1 else 0
theorem tover (b off m c : Nat) (X Y : Nat → Int) (x y : Int) (hxy : x ≤ y) (hv : TabOK (m + 1) X Y) (w : World) (ht : TabAt w b off (m + 1) X Y) :
    Calls Tryz.prog 14 #[.slice (some ⟨b, off, none⟩) (m + 1 : Nat) c, .agg #[.int .i64 x, .int .i64 y]] w fun e w' => e = .returned (.tuple #[.agg #[.int .i64 (Val.val X Y m x), .int .i64 (Val.cl X Y m y)], .int .i64 0]) ∧ Below w.heap.size w w' := by
  have S1 := Lib.hid fun w ht => tvalid b off (m + 1) c X Y w hv.1 hv.2.1 ht
  have tv := tabB_true hv
  have S2 := Lib.hid fun w ht => tfloor b off m c X Y x hv w ht
  have S3 := Lib.hid fun w ht => tceil b off m c X Y y hv w ht
  have HT := Lib.hid ht
  have hb := ht.1
  have e1 : Val.cl X Y m y = Val.val X Y m y + if 0 < Val.rst X Y m y then 1 else 0 := rfl
  obtain ⟨v, hv2⟩ : ∃ v, v = Val.val X Y m x := ⟨_, rfl⟩
  obtain ⟨u, hu2⟩ : ∃ v, v = Val.cl X Y m y := ⟨_, rfl⟩
  rw [← hv2] at S2
  rw [← e1, ← hu2] at S3
  rw [← hv2, ← hu2]
  clear hv ht hv2 hu2 e1
  go_enter Tryz.func14, Tryz.ntmps14
  go_wp2_with (first | (go_at_call 23; (with_reducible refine (S1.out _ ?_).mono ?_); (focus (exact HT.out.below (by (repeat' (first | assumption | exact Below.refl _ _ | exact Below.size (by assumption) | (refine Below.setCell ?_ ?_ _) | (refine Below.alloc ?_ ?_ _) | (refine Below.drew ?_) | (refine below_drewN ?_ _) | (refine Below.trans ?_ (Below.mono ‹Below _ _ _› ?_)) | omega | (simp; done) | (simp; omega) | (simp at *; omega)))) hb)); rintro e w1 ⟨rfl, hb1⟩; obtain ⟨hc1, hf1⟩ := bcell hb1; have hz1 := hb1.size; (try simp at hz1); (try simp only [heap_drew, World.heap_drewN] at hz1); (try simp only [heap_drew, World.heap_drewN] at hc1); (try simp only [heap_drew, World.heap_drewN] at hf1); (try have hs1 := Nat.lt_of_succ_le hz1); (try have hs2 := Nat.lt_of_succ_lt hs1); (try have y0 : w.heap.size < w1.heap.size := by omega); (try have y1 : w.heap.size + 1 < w1.heap.size := by omega); (try have y2 : w.heap.size + 2 < w1.heap.size := by omega)) | (go_at_call 31; (with_reducible refine (S2.out _ ?_).mono ?_); (focus (exact HT.out.below (by (repeat' (first | assumption | exact Below.refl _ _ | exact Below.size (by assumption) | (refine Below.setCell ?_ ?_ _) | (refine Below.alloc ?_ ?_ _) | (refine Below.drew ?_) | (refine below_drewN ?_ _) | (refine Below.trans ?_ (Below.mono ‹Below _ _ _› ?_)) | omega | (simp; done) | (simp; omega) | (simp at *; omega)))) hb)); rintro e w1 ⟨rfl, hb1⟩; obtain ⟨hc1, hf1⟩ := bcell hb1; have hz1 := hb1.size; (try simp at hz1); (try simp only [heap_drew, World.heap_drewN] at hz1); (try simp only [heap_drew, World.heap_drewN] at hc1); (try simp only [heap_drew, World.heap_drewN] at hf1); (try have hs1 := Nat.lt_of_succ_le hz1); (try have hs2 := Nat.lt_of_succ_lt hs1); (try have y0 : w.heap.size < w1.heap.size := by omega); (try have y1 : w.heap.size + 1 < w1.heap.size := by omega); (try have y2 : w.heap.size + 2 < w1.heap.size := by omega)) | (go_at_call 32; (with_reducible refine (S3.out _ ?_).mono ?_); (focus (exact HT.out.below (by (repeat' (first | assumption | exact Below.refl _ _ | exact Below.size (by assumption) | (refine Below.setCell ?_ ?_ _) | (refine Below.alloc ?_ ?_ _) | (refine Below.drew ?_) | (refine below_drewN ?_ _) | (refine Below.trans ?_ (Below.mono ‹Below _ _ _› ?_)) | omega | (simp; done) | (simp; omega) | (simp at *; omega)))) hb)); rintro e w1 ⟨rfl, hb1⟩; obtain ⟨hc1, hf1⟩ := bcell hb1; have hz1 := hb1.size; (try simp at hz1); (try simp only [heap_drew, World.heap_drewN] at hz1); (try simp only [heap_drew, World.heap_drewN] at hc1); (try simp only [heap_drew, World.heap_drewN] at hf1); (try have hs1 := Nat.lt_of_succ_le hz1); (try have hs2 := Nat.lt_of_succ_lt hs1); (try have y0 : w.heap.size < w1.heap.size := by omega); (try have y1 : w.heap.size + 1 < w1.heap.size := by omega); (try have y2 : w.heap.size + 2 < w1.heap.size := by omega)))
  refine bodyPost_ret (v := .tuple #[.agg #[.int .i64 v, .int .i64 u], .int .i64 0]) (by simp [results, Tryz.results14, go_sem, *]) rfl ⟨rfl, ?_⟩
  (repeat' (first | assumption | exact Below.refl _ _ | exact Below.size (by assumption) | (refine Below.setCell ?_ ?_ _) | (refine Below.alloc ?_ ?_ _) | (refine Below.drew ?_) | (refine below_drewN ?_ _) | (refine Below.trans ?_ (Below.mono ‹Below _ _ _› ?_)) | omega | (simp; done) | (simp; omega) | (simp at *; omega)))

end Go.Proofs.YtapfmbnppeonkaaGreatDoor

namespace Go.Proofs.YtapfmbnppeonkaaGreatDoor
open Go.RowKit
set_option linter.unusedVariables false
set_option linter.unusedSimpArgs false

/-- The last knot whose X is at most x, among the first i ones. -/
def BInv (X : Nat → Int) (x : Int) (i : Nat) (K : Int) : Prop := (K = -1 ∧ ∀ j, j < i → x < X j) ∨ ∃ k : Nat, k < i ∧ K = k ∧ X k ≤ x ∧ ∀ j, k < j → j < i → x < X j
end Go.Proofs.YtapfmbnppeonkaaGreatDoor

namespace Go.Proofs.YtapfmbnppeonkaaGreatDoor
open Go.RowKit
set_option linter.unusedVariables false
set_option linter.unusedSimpArgs false

theorem rsame_nil (w : World) :
    Calls Tryz.prog 8 #[.slice none 0 0, .slice none 0 0] w fun e w' => e = .returned (.bool true) ∧ Below w.heap.size w w' := by
  go_enter Tryz.func8, Tryz.ntmps8
  go_wp2_with fail
  go_loop [5] (fun u => u = .int .i64 0) (fun u => 0)
  case atStart => rfl
  case round =>
    obtain rfl := hrel
    go_wp2_with fail
    go_ret
    refine ⟨rfl, ?_⟩
    (repeat' (first | assumption | exact Below.refl _ _ | exact Below.size (by assumption) | (refine Below.setCell ?_ ?_ _) | (refine Below.alloc ?_ ?_ _) | (refine Below.drew ?_) | (refine below_drewN ?_ _) | (refine Below.trans ?_ (Below.mono ‹Below _ _ _› ?_)) | omega | (simp; done) | (simp; omega) | (simp at *; omega)))
end Go.Proofs.YtapfmbnppeonkaaGreatDoor

namespace Go.Proofs.YtapfmbnppeonkaaGreatDoor
open Go.RowKit
set_option linter.unusedVariables false
set_option linter.unusedSimpArgs false

set_option maxHeartbeats 1000000 in
theorem rsame_gen (b b' off off' n c c' : Nat) (X Y : Nat → Int) (w : World) (h2 : n ≤ 100) (ht : TabAt w b off n X Y) (ht' : TabAt w b' off' n X Y) :
    Calls Tryz.prog 8 #[.slice (some ⟨b, off, none⟩) n c, .slice (some ⟨b', off', none⟩) n c'] w fun e w' => e = .returned (.bool true) ∧ Below w.heap.size w w' := by
  have HT := Lib.hid ht
  have HT' := Lib.hid ht'
  have H2 := Lib.hid h2
  have hb := ht.1
  have hb' := ht'.1
  clear ht ht' h2
  go_enter Tryz.func8, Tryz.ntmps8
  go_wp2_with fail
  go_loopw [5] (fun u wr => ∃ i : Nat, Hid (i ≤ n) ∧ u = .int .i64 i ∧ Hid (Below w.heap.size w wr)) (fun u _ => n - (intOf u).toNat)
  case atStart => exact ⟨0, Nat.zero_le _, rfl, Below.refl _ _⟩
  case round =>
    obtain ⟨i, Hi, rfl, HW⟩ := hrel
    by_cases hlt : i < n
    · have T0 : decide ((i : Int) < (n : Int)) = true := by simp <;> omega
      have T0' : decide (i < n) = true := decide_eq_true hlt
      obtain ⟨i', hi'⟩ : ∃ z, z = i + 1 := ⟨_, rfl⟩
      have x0 : IntKind.i64.wrap ((i : Int) + 1) = (i' : Int) := by have := H2.out; rw [IntKind.wrap_i64]; omega
      have HTr := Lib.hid (HT.out.below HW.out hb)
      have HTr' := Lib.hid (HT'.out.below HW.out hb')
      have hX := (HTr.out.2 i hlt).1
      have hY := (HTr.out.2 i hlt).2
      have hX' := (HTr'.out.2 i hlt).1
      have hY' := (HTr'.out.2 i hlt).2
      have HI' : Hid (i' ≤ n) := by show i' ≤ n; omega
      have HMS : Hid (n - (intOf (Value.int .i64 (i' : Int))).toNat < n - (intOf (Value.int .i64 (i : Int))).toNat) := by show _ < _; simp [intOf]; omega
      have k0 : (0 : Int) ≤ (i : Int) := by omega
      have k1 : (i : Int) < (n : Int) := by omega
      clear hi'
      go_wp2_with fail
      go_quiet (fail)
      go_wp2_with fail
      go_roundw
      case rel => exact ⟨i', HI', rfl, below_drewN HW.out _⟩
      case measure => exact HMS.out
    · obtain rfl : i = n := by have := Hi.out; omega
      have T0 : decide ((i : Int) < (i : Int)) = false := by simp
      go_wp2_with fail
      go_ret
      exact ⟨rfl, HW.out⟩

end Go.Proofs.YtapfmbnppeonkaaGreatDoor

namespace Go.Proofs.YtapfmbnppeonkaaGreatDoor.Val

/-- The value, rounded up, by the rest. -/
def up (X Y : Nat → Int) (m : Nat) (x : Int) : Int := val X Y m x + if 0 < rst X Y m x then 1 else 0
/-- What Least answers: where the values reach y. -/
def LeastAt (X Y : Nat → Int) (m : Nat) (y n : Int) : Prop :=
  (y ≤ Y 0 ∧ n = X 0) ∨ ∃ k, k < m ∧ Y k < y ∧ y ≤ Y (k + 1) ∧ n = X k + ((y - Y k) * (X (k + 1) - X k) + (Y (k + 1) - Y k) - 1) / (Y (k + 1) - Y k)
/-- What Most answers: up to where the values stay at most y. -/
def MostAt (X Y : Nat → Int) (m : Nat) (y n : Int) : Prop :=
  (Y m ≤ y ∧ n = X m) ∨ ∃ k, k < m ∧ Y k ≤ y ∧ y < Y (k + 1) ∧ n = X k + ((y - Y k) * (X (k + 1) - X k)) / (Y (k + 1) - Y k)
end Go.Proofs.YtapfmbnppeonkaaGreatDoor.Val

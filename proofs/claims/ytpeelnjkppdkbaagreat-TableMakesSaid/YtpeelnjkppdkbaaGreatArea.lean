/- Merged: Cap, Area. -/
import Derived.Test.YtpeelnjkppdkbaaGreatFloor
import Derived.Test.YtpeelnjkppdkbaaGreatCircle
import Derived.RegionTactic
namespace Go.Proofs.YtpeelnjkppdkbaaGreat
open Go.RowKit
set_option linter.unusedVariables false
set_option linter.unusedSimpArgs false

/-- The capacity, whatever its size. -/
def capN (K f l : Nat) : Nat := Num.isq (K * K * f / l)
theorem cap_bounds {K f l : Nat} (hK : K ≤ 1099511627776) (hf : f ≤ 4194304) (hl : 1 ≤ l) :
    K * K * f < 85070591730234615865843651857942052864 ∧ K * K * f / l < 85070591730234615865843651857942052864 := by
  have h1 : K * K ≤ 1099511627776 * 1099511627776 := Nat.mul_le_mul hK hK
  have h2 : K * K * f ≤ 1099511627776 * 1099511627776 * 4194304 := Nat.mul_le_mul h1 hf
  have h3 : K * K * f / l ≤ K * K * f := Nat.div_le_self _ _
  omega

/-- What Capacity answers, in its four ways. -/
def CapIs (ok : Prop) (h x f l : Int) (v : Nat) (q e : Int) : Prop :=
  (¬ ok ∧ q = 0 ∧ e = 1) ∨ (ok ∧ (x < 0 ∨ h < x ∨ slopeB f l = false) ∧ q = 0 ∧ e = 2) ∨
  (ok ∧ 0 ≤ x ∧ x ≤ h ∧ slopeB f l = true ∧ 1099511627776 < v ∧ q = 0 ∧ e = 5) ∨ (ok ∧ 0 ≤ x ∧ x ≤ h ∧ slopeB f l = true ∧ v ≤ 1099511627776 ∧ q = v ∧ e = 0)
theorem capIs_ex (ok : Prop) (h x f l : Int) (v : Nat) : ∃ q e, CapIs ok h x f l v q e := by
  by_cases h1 : ok
  · by_cases h2 : x < 0 ∨ h < x ∨ slopeB f l = false
    · exact ⟨0, 2, .inr (.inl ⟨h1, h2, rfl, rfl⟩)⟩
    · have h3 : slopeB f l = true := by
        cases hs : slopeB f l with
        | true => rfl
        | false => exact absurd (.inr (.inr hs)) h2
      by_cases h4 : 1099511627776 < v
      · exact ⟨0, 5, .inr (.inr (.inl ⟨h1, by omega, by omega, h3, h4, rfl, rfl⟩))⟩
      · exact ⟨v, 0, .inr (.inr (.inr ⟨h1, by omega, by omega, h3, by omega, rfl, rfl⟩))⟩
  · exact ⟨0, 1, .inl ⟨h1, rfl, rfl⟩⟩
theorem slope_nat {f l : Int} (h : slopeB f l = true) : ∃ F L : Nat, f = F ∧ l = L ∧ F ≤ 4194304 ∧ 1 ≤ L ∧ L ≤ 16777216 := by
  have h' : (0 ≤ f ∧ f ≤ 4194304) ∧ (1 ≤ l ∧ l ≤ 16777216) := by simpa [slopeB, betw] using h
  exact ⟨f.toNat, l.toNat, by omega, by omega, by omega, by omega, by omega⟩
/-- The conveyance of a valid section. -/
theorem sec_conv {nm : List UInt8} {h p : Int} {na nc : Nat} {AX AY CX CY : Nat → Int} {w : World} {C : Option Addr} (ok : SecOK nm h p na AX AY nc CX CY) (hC : TabIn w C nc CX CY) :
    ∃ b off m, C = some ⟨b, off, none⟩ ∧ nc = m + 1 ∧ TabAt w b off (m + 1) CX CY ∧ TabOK (m + 1) CX CY ∧ CX 0 = 0 ∧ CY 0 = 0 ∧ CX m = h ∧ CY m ≤ 1099511627776 := by
  obtain ⟨_, _, _, _, _, _, hc, h0, h1, h2, h3⟩ := ok
  have hn := hc.1
  rcases hC.2 with e | ⟨b, off, hA, hT⟩
  · omega
  · obtain ⟨m, rfl⟩ : ∃ m, nc = m + 1 := ⟨nc - 1, by omega⟩
    exact ⟨b, off, m, hA, rfl, hT, hc, h0, h1, h2, h3⟩
def valK (nc : Nat) (X Y : Nat → Int) (x : Int) : Nat := (Val.val X Y (nc - 1) x).toNat
theorem valK_spec {m : Nat} {X Y : Nat → Int} {x : Int} (hv : TabOK (m + 1) X Y) (h0 : Y 0 = 0) (h1 : Y m ≤ 1099511627776) : Val.val X Y m x = (valK (m + 1) X Y x : Int) ∧ valK (m + 1) X Y x ≤ 1099511627776 := by
  have g1 := Val.val_ge (x := x) (asc_of hv)
  have g2 := Val.val_le (x := x) (asc_of hv)
  have e : valK (m + 1) X Y x = (Val.val X Y m x).toNat := rfl
  rw [e]
  omega

end Go.Proofs.YtpeelnjkppdkbaaGreat

namespace Go.Proofs.YtpeelnjkppdkbaaGreat
open Go.RowKit
set_option linter.unusedVariables false
set_option linter.unusedSimpArgs false

/-- The value, rounded up. -/
def Val.cl (X Y : Nat → Int) (m : Nat) (x : Int) : Int := Val.val X Y m x + if 0 < Val.rst X Y m x then 1 else 0
theorem tover (b off m c : Nat) (X Y : Nat → Int) (x y : Int) (hxy : x ≤ y) (hv : TabOK (m + 1) X Y) (w : World) (ht : TabAt w b off (m + 1) X Y) :
    Calls Tryz.prog 15 #[.slice (some ⟨b, off, none⟩) (m + 1 : Nat) c, .agg #[.int .i64 x, .int .i64 y]] w fun e w' => e = .returned (.tuple #[.agg #[.int .i64 (Val.val X Y m x), .int .i64 (Val.cl X Y m y)], .int .i64 0]) ∧ Below w.heap.size w w' := by
  have S1 := Lib.hid fun w ht => tvalid b off (m + 1) c X Y w hv.1 hv.2.1 ht
  have tv := tabB_true hv
  have S2 := Lib.hid fun w ht => tfloor b off m c X Y x hv w ht
  have S3 := Lib.hid fun w ht => tceil b off m c X Y y hv w ht
  have HT := Lib.hid ht
  have hb := ht.1
  have e1 : Val.cl X Y m y = Val.val X Y m y + if 0 < Val.rst X Y m y then 1 else 0 := rfl
  obtain ⟨v, hv2⟩ : ∃ v, v = Val.val X Y m x := ⟨_, rfl⟩
  obtain ⟨u, hu2⟩ : ∃ v, v = Val.cl X Y m y := ⟨_, rfl⟩
  rw [← hv2] at S2
  rw [← e1, ← hu2] at S3
  rw [← hv2, ← hu2]
  clear hv ht hv2 hu2 e1
  go_enter Tryz.func15, Tryz.ntmps15
  go_wp2_with (first | (go_at_call 19; (with_reducible refine (S1.out _ ?_).mono ?_); (focus (exact HT.out.below (by (repeat' (first | assumption | exact Below.refl _ _ | exact Below.size (by assumption) | (refine Below.setCell ?_ ?_ _) | (refine Below.alloc ?_ ?_ _) | (refine Below.drew ?_) | (refine below_drewN ?_ _) | (refine Below.trans ?_ (Below.mono ‹Below _ _ _› ?_)) | omega | (simp; done) | (simp; omega) | (simp at *; omega)))) hb)); rintro e w1 ⟨rfl, hb1⟩; obtain ⟨hc1, hf1⟩ := bcell hb1; have hz1 := hb1.size; (try simp at hz1); (try simp only [heap_drew, World.heap_drewN] at hz1); (try simp only [heap_drew, World.heap_drewN] at hc1); (try simp only [heap_drew, World.heap_drewN] at hf1); (try have hs1 := Nat.lt_of_succ_le hz1); (try have hs2 := Nat.lt_of_succ_lt hs1); (try have y0 : w.heap.size < w1.heap.size := by omega); (try have y1 : w.heap.size + 1 < w1.heap.size := by omega); (try have y2 : w.heap.size + 2 < w1.heap.size := by omega)) | (go_at_call 34; (with_reducible refine (S2.out _ ?_).mono ?_); (focus (exact HT.out.below (by (repeat' (first | assumption | exact Below.refl _ _ | exact Below.size (by assumption) | (refine Below.setCell ?_ ?_ _) | (refine Below.alloc ?_ ?_ _) | (refine Below.drew ?_) | (refine below_drewN ?_ _) | (refine Below.trans ?_ (Below.mono ‹Below _ _ _› ?_)) | omega | (simp; done) | (simp; omega) | (simp at *; omega)))) hb)); rintro e w1 ⟨rfl, hb1⟩; obtain ⟨hc1, hf1⟩ := bcell hb1; have hz1 := hb1.size; (try simp at hz1); (try simp only [heap_drew, World.heap_drewN] at hz1); (try simp only [heap_drew, World.heap_drewN] at hc1); (try simp only [heap_drew, World.heap_drewN] at hf1); (try have hs1 := Nat.lt_of_succ_le hz1); (try have hs2 := Nat.lt_of_succ_lt hs1); (try have y0 : w.heap.size < w1.heap.size := by omega); (try have y1 : w.heap.size + 1 < w1.heap.size := by omega); (try have y2 : w.heap.size + 2 < w1.heap.size := by omega)) | (go_at_call 35; (with_reducible refine (S3.out _ ?_).mono ?_); (focus (exact HT.out.below (by (repeat' (first | assumption | exact Below.refl _ _ | exact Below.size (by assumption) | (refine Below.setCell ?_ ?_ _) | (refine Below.alloc ?_ ?_ _) | (refine Below.drew ?_) | (refine below_drewN ?_ _) | (refine Below.trans ?_ (Below.mono ‹Below _ _ _› ?_)) | omega | (simp; done) | (simp; omega) | (simp at *; omega)))) hb)); rintro e w1 ⟨rfl, hb1⟩; obtain ⟨hc1, hf1⟩ := bcell hb1; have hz1 := hb1.size; (try simp at hz1); (try simp only [heap_drew, World.heap_drewN] at hz1); (try simp only [heap_drew, World.heap_drewN] at hc1); (try simp only [heap_drew, World.heap_drewN] at hf1); (try have hs1 := Nat.lt_of_succ_le hz1); (try have hs2 := Nat.lt_of_succ_lt hs1); (try have y0 : w.heap.size < w1.heap.size := by omega); (try have y1 : w.heap.size + 1 < w1.heap.size := by omega); (try have y2 : w.heap.size + 2 < w1.heap.size := by omega)))
  refine bodyPost_ret (v := .tuple #[.agg #[.int .i64 v, .int .i64 u], .int .i64 0]) (by simp [results, Tryz.results15, go_sem, *]) rfl ⟨rfl, ?_⟩
  (repeat' (first | assumption | exact Below.refl _ _ | exact Below.size (by assumption) | (refine Below.setCell ?_ ?_ _) | (refine Below.alloc ?_ ?_ _) | (refine Below.drew ?_) | (refine below_drewN ?_ _) | (refine Below.trans ?_ (Below.mono ‹Below _ _ _› ?_)) | omega | (simp; done) | (simp; omega) | (simp at *; omega)))

/-- The area of a valid section. -/
theorem sec_area {nm : List UInt8} {h p : Int} {na nc : Nat} {AX AY CX CY : Nat → Int} {w : World} {A : Option Addr} (ok : SecOK nm h p na AX AY nc CX CY) (hA : TabIn w A na AX AY) :
    ∃ b off m, A = some ⟨b, off, none⟩ ∧ na = m + 1 ∧ TabAt w b off (m + 1) AX AY ∧ TabOK (m + 1) AX AY ∧ AX 0 = 0 ∧ AY 0 = 0 ∧ AX m = h ∧ AY m ≤ 1073741824 := by
  obtain ⟨_, _, _, _, _, hc, _⟩ := ok
  obtain ⟨hc, h0, h1, h2, h3⟩ := hc
  have hn := hc.1
  rcases hA.2 with e | ⟨b, off, hA', hT⟩
  · omega
  · obtain ⟨m, rfl⟩ : ∃ m, na = m + 1 := ⟨na - 1, by omega⟩
    exact ⟨b, off, m, hA', rfl, hT, hc, h0, h1, h2, h3⟩
/-- What Area answers, in its three ways. -/
def AreaIs (ok : Prop) (h x v u a b e : Int) : Prop :=
  (¬ ok ∧ a = 0 ∧ b = 0 ∧ e = 1) ∨ (ok ∧ (x < 0 ∨ h < x) ∧ a = 0 ∧ b = 0 ∧ e = 2) ∨ (ok ∧ 0 ≤ x ∧ x ≤ h ∧ a = v ∧ b = u ∧ e = 0)
theorem areaIs_ex (ok : Prop) (h x v u : Int) : ∃ a b e, AreaIs ok h x v u a b e := by
  by_cases h1 : ok
  · by_cases h2 : x < 0 ∨ h < x
    · exact ⟨0, 0, 2, .inr (.inl ⟨h1, h2, rfl, rfl, rfl⟩)⟩
    · exact ⟨v, u, 0, .inr (.inr ⟨h1, by omega, by omega, rfl, rfl, rfl⟩)⟩
  · exact ⟨0, 0, 1, .inl ⟨h1, rfl, rfl, rfl⟩⟩
end Go.Proofs.YtpeelnjkppdkbaaGreat

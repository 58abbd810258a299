/- The capacity of a section, by the package. -/
import Derived.Test.YtpeelnjkppdkbaaFloor
import Derived.Test.YtpeelnjkppdkbaaSec
import Derived.Test.YtpeelnjkppdkbaaCat
namespace Go.Proofs.Ytpeelnjkppdkbaa
open Go.RowKit
set_option linter.unusedVariables false
set_option linter.unusedSimpArgs false

/-- The capacity, whatever its size. -/
def capN (K f l : Nat) : Nat := Num.isq (K * K * f / l)
theorem cap_bounds {K f l : Nat} (hK : K ≤ 1099511627776) (hf : f ≤ 4194304) (hl : 1 ≤ l) :
    K * K * f < 85070591730234615865843651857942052864 ∧ K * K * f / l < 85070591730234615865843651857942052864 := by
  have h1 : K * K ≤ 1099511627776 * 1099511627776 := Nat.mul_le_mul hK hK
  have h2 : K * K * f ≤ 1099511627776 * 1099511627776 * 4194304 := Nat.mul_le_mul h1 hf
  have h3 : K * K * f / l ≤ K * K * f := Nat.div_le_self _ _
  omega

/-- What Capacity answers, in its four ways. -/
def CapIs (ok : Prop) (h x f l : Int) (v : Nat) (q e : Int) : Prop :=
  (¬ ok ∧ q = 0 ∧ e = 1) ∨ (ok ∧ (x < 0 ∨ h < x ∨ slopeB f l = false) ∧ q = 0 ∧ e = 2) ∨
  (ok ∧ 0 ≤ x ∧ x ≤ h ∧ slopeB f l = true ∧ 1099511627776 < v ∧ q = 0 ∧ e = 5) ∨ (ok ∧ 0 ≤ x ∧ x ≤ h ∧ slopeB f l = true ∧ v ≤ 1099511627776 ∧ q = v ∧ e = 0)
theorem capIs_ex (ok : Prop) (h x f l : Int) (v : Nat) : ∃ q e, CapIs ok h x f l v q e := by
  by_cases h1 : ok
  · by_cases h2 : x < 0 ∨ h < x ∨ slopeB f l = false
    · exact ⟨0, 2, .inr (.inl ⟨h1, h2, rfl, rfl⟩)⟩
    · have h3 : slopeB f l = true := by
        cases hs : slopeB f l with
        | true => rfl
        | false => exact absurd (.inr (.inr hs)) h2
      by_cases h4 : 1099511627776 < v
      · exact ⟨0, 5, .inr (.inr (.inl ⟨h1, by omega, by omega, h3, h4, rfl, rfl⟩))⟩
      · exact ⟨v, 0, .inr (.inr (.inr ⟨h1, by omega, by omega, h3, by omega, rfl, rfl⟩))⟩
  · exact ⟨0, 1, .inl ⟨h1, rfl, rfl⟩⟩
theorem slope_nat {f l : Int} (h : slopeB f l = true) : ∃ F L : Nat, f = F ∧ l = L ∧ F ≤ 4194304 ∧ 1 ≤ L ∧ L ≤ 16777216 := by
  have h' : (0 ≤ f ∧ f ≤ 4194304) ∧ (1 ≤ l ∧ l ≤ 16777216) := by simpa [slopeB, betw] using h
  exact ⟨f.toNat, l.toNat, by omega, by omega, by omega, by omega, by omega⟩
/-- The conveyance of a valid section. -/
theorem sec_conv {nm : List UInt8} {h p : Int} {na nc : Nat} {AX AY CX CY : Nat → Int} {w : World} {C : Option Addr} (ok : SecOK nm h p na AX AY nc CX CY) (hC : TabIn w C nc CX CY) :
    ∃ b off m, C = some ⟨b, off, none⟩ ∧ nc = m + 1 ∧ TabAt w b off (m + 1) CX CY ∧ TabOK (m + 1) CX CY ∧ CX 0 = 0 ∧ CY 0 = 0 ∧ CX m = h ∧ CY m ≤ 1099511627776 := by
  obtain ⟨_, _, _, _, _, _, hc, h0, h1, h2, h3⟩ := ok
  have hn := hc.1
  rcases hC.2 with e | ⟨b, off, hA, hT⟩
  · omega
  · obtain ⟨m, rfl⟩ : ∃ m, nc = m + 1 := ⟨nc - 1, by omega⟩
    exact ⟨b, off, m, hA, rfl, hT, hc, h0, h1, h2, h3⟩
def valK (nc : Nat) (X Y : Nat → Int) (x : Int) : Nat := (Val.val X Y (nc - 1) x).toNat
theorem valK_spec {m : Nat} {X Y : Nat → Int} {x : Int} (hv : TabOK (m + 1) X Y) (h0 : Y 0 = 0) (h1 : Y m ≤ 1099511627776) : Val.val X Y m x = (valK (m + 1) X Y x : Int) ∧ valK (m + 1) X Y x ≤ 1099511627776 := by
  have g1 := Val.val_ge (x := x) (asc_of hv)
  have g2 := Val.val_le (x := x) (asc_of hv)
  have e : valK (m + 1) X Y x = (Val.val X Y m x).toNat := rfl
  rw [e]
  omega

end Go.Proofs.Ytpeelnjkppdkbaa

/- What CatalogueRound says, in plain numbers. -/
import Derived.Test.YtnphcnhefgjpjaaRndZ
import Derived.Test.YtnphcnhefgjpjaaAwake
namespace Go.Proofs.Ytnphcnhefgjpjaa
open Go.RowKit
set_option linter.unusedVariables false
set_option linter.unusedSimpArgs false

theorem TabAt.call {w w' : World} {b off n : Nat} {X Y : Nat → Int} (h : TabAt w b off n X Y) (hb : Below w.heap.size w w') : TabAt w' b off n X Y := h.below hb h.1
theorem TabAt.alloc {w : World} {b off n : Nat} {X Y : Nat → Int} (h : TabAt w b off n X Y) (o : Obj) : TabAt (w.alloc o) b off n X Y := h.below ((Below.refl _ _).alloc (Nat.le_refl _) o) h.1
/-- A circle is a valid section. -/
theorem circ_curve {S P : Nat} {Y : Nat → Nat} {most : Int} (h2 : 2 ≤ P) (h99 : P ≤ 99) (hPS : P ≤ S) (hS : S ≤ 32768) (h0 : Y 0 = 0) (hm : ∀ i, i + 1 ≤ P → Y i ≤ Y (i + 1)) (hY : ∀ i, i ≤ P → Y i ≤ 274877906944) (hl : (Y P : Int) ≤ most) :
    CurveOK (P + 1) (fun k => ((Circ.cd S P k : Nat) : Int)) (fun k => ((Y k : Nat) : Int)) (S : Int) most := by
  refine ⟨⟨by omega, by omega, fun k hk => ⟨?_, ?_, fun h => ?_⟩⟩, ?_, ?_, ?_, ?_⟩
  · have := Circ.cd_le h2 hPS (by omega : k ≤ P)
    unfold inB; dsimp only; omega
  · have := hY k (by omega)
    unfold inB; dsimp only; omega
  · obtain ⟨j, rfl⟩ : ∃ j, k = j + 1 := ⟨k - 1, by omega⟩
    have a := Circ.cd_step h2 hPS j
    have b := hm j (by omega)
    simp only [Nat.add_sub_cancel]
    omega
  · simp [Circ.cd]
  · simp [h0]
  · simp only [Nat.add_sub_cancel]; rw [Circ.cd_last h2 hPS]
  · simpa only [Nat.add_sub_cancel] using hl
theorem circ_ok {nm : List UInt8} {S P pr : Nat} (hnm : nameB nm = true) (h2 : 2 ≤ P) (h99 : P ≤ 99) (hPS : P ≤ S) (hS : S ≤ 32768) (hpr : pr ≤ 1073741824) :
    SecOK nm (S : Int) (pr : Int) (P + 1) (fun k => ((Circ.cd S P k : Nat) : Int)) (fun k => ((Circ.ca S P k : Nat) : Int)) (P + 1) (fun k => ((Circ.cd S P k : Nat) : Int)) (fun k => ((Circ.ck S P k : Nat) : Int)) := by
  refine ⟨hnm, by omega, by omega, by omega, by omega, circ_curve h2 h99 hPS hS rfl (fun i hi => ?_) (fun i hi => ?_) ?_, circ_curve h2 h99 hPS hS rfl (fun i hi => ?_) (fun i hi => ?_) ?_⟩
  · show Circ.ca S P i ≤ Circ.ca S P i + _; omega
  · have := (Circ.ca_bound h2 hPS hS hi).1; omega
  · have := (Circ.ca_bound h2 hPS hS (Nat.le_refl P)).1; omega
  · show Circ.ck S P i ≤ max (Circ.ck S P i) _; omega
  · have := Circ.ck_bound h2 hPS hS hi; omega
  · have := Circ.ck_bound h2 hPS hS (Nat.le_refl P); omega

def capQ (v : Nat) : Int := if v ≤ 1099511627776 then v else 0
def capE (v : Nat) : Int := if v ≤ 1099511627776 then 0 else 5
theorem capIs_ok {ok : Prop} {h x f l : Int} {v : Nat} (hok : ok) (h0 : 0 ≤ x) (h1 : x ≤ h) (hs : slopeB f l = true) : CapIs ok h x f l v (capQ v) (capE v) := by
  unfold capQ capE
  by_cases hv : v ≤ 1099511627776
  · rw [if_pos hv, if_pos hv]; exact .inr (.inr (.inr ⟨hok, h0, h1, hs, hv, rfl, rfl⟩))
  · rw [if_neg hv, if_neg hv]; exact .inr (.inr (.inl ⟨hok, h0, h1, hs, by omega, rfl, rfl⟩))
theorem cap_eq (v : Nat) : (capQ v = (v : Int) ∧ capE v = 0 ∧ v ≤ 1099511627776) ∨ (capQ v = 0 ∧ capE v = 5 ∧ 1099511627776 < v) := by
  unfold capQ capE
  by_cases hv : v ≤ 1099511627776
  · left; rw [if_pos hv, if_pos hv]; exact ⟨rfl, rfl, hv⟩
  · right; rw [if_neg hv, if_neg hv]; exact ⟨rfl, rfl, by omega⟩
theorem capN_mono {K K' f f' l l' : Nat} (hK : K ≤ K') (hf : f ≤ f') (hl : l' ≤ l) (h0 : 0 < l') : capN K f l ≤ capN K' f' l' := by
  refine Num.isq_mono (Nat.le_trans (Nat.div_le_div_left hl h0) (Nat.div_le_div_right ?_))
  exact Nat.mul_le_mul (Nat.mul_le_mul hK hK) hf
/-- The value of a circle's conveyance at its size is the last one. -/
theorem ck_val {S P : Nat} (h2 : 2 ≤ P) (hPS : P ≤ S) : valK (P + 1) (fun k => ((Circ.cd S P k : Nat) : Int)) (fun k => ((Circ.ck S P k : Nat) : Int)) (S : Int) = Circ.ck S P P := by
  unfold valK
  rw [Nat.add_sub_cancel, (Val.val_last (X := fun k => ((Circ.cd S P k : Nat) : Int)) (Y := fun k => ((Circ.ck S P k : Nat) : Int)) (m := P) (x := (S : Int)) (by show ((Circ.cd S P P : Nat) : Int) ≤ (S : Int); rw [Circ.cd_last h2 hPS]; exact Int.le_refl _)).1]
  exact Int.toNat_natCast _
/-- How a greater circle's capacity lies. -/
theorem cap_more {S P T F L : Nat} (h2 : 2 ≤ P) (h40 : P ≤ 40) (hS : 40 ≤ S) (hS2 : S ≤ 4000) (hT : S + 2 * P ≤ T) (hT2 : T < 5000) (hL : 0 < L) : capN (Circ.ck S P P) F L ≤ capN (Circ.ck T P P) F L :=
  capN_mono ((Circ.round_facts h2 h40 hS hS2).2.2.2 T hT hT2) (Nat.le_refl _) (Nat.le_refl _) hL
end Go.Proofs.Ytnphcnhefgjpjaa

/- A valid network. Plain. -/
import Derived.Test.YtdgfljkhnifemaaGreatDoorNetF
namespace Go.Proofs.YtdgfljkhnifemaaGreatDoor
open Go.RowKit
set_option linter.unusedVariables false
set_option linter.unusedSimpArgs false

def ndP (D : Nds) (i : Nat) : Prop := nodeP (D.Nm i) (D.Kd i) (D.Ax i) (D.Ay i) (D.Iv i) (D.Gd i) (D.SN i) (D.SX i) (D.SY i) (D.Pt i) (D.Rs i)
def ndsP (D : Nds) (n i : Nat) : Prop := ndP D i ∧ fnd D.Nm n (D.Nm i) = (i : Int)
def lkP (K : Lks) (i : Nat) : Prop := linkP (K.Nm i) (K.Fr i) (K.To i) (K.Kd i) (K.Ln i) (K.Up i) (K.Dn i) (K.Sc i) (K.Wd i) (K.Ht i) (K.CN i) (K.CX i) (K.CY i)
def lksP (D : Nds) (n : Nat) (K : Lks) (m i : Nat) : Prop := lkP K i ∧ fnd K.Nm m (K.Nm i) = (i : Int) ∧ 0 ≤ fnd D.Nm n (K.Fr i) ∧ 0 ≤ fnd D.Nm n (K.To i) ∧ D.Kd (fnd D.Nm n (K.Fr i)).toNat ≠ 3
/-- A network is valid. -/
def netP (D : Nds) (n : Nat) (K : Lks) (m : Nat) : Prop := n ≤ 300 ∧ m ≤ 400 ∧ (∀ i, i < n → ndsP D n i) ∧ ∀ i, i < m → lksP D n K m i
/-- Sizes at which the contracts speak. -/
structure NetSz (D : Nds) (n : Nat) (K : Lks) (m : Nat) : Prop where
  n2 : n ≤ 2000
  m2 : m ≤ 2000
  nm : ∀ i, i < n → (D.Nm i).size ≤ maxLen
  kn : ∀ i, i < m → (K.Nm i).size ≤ maxLen
  kf : ∀ i, i < m → (K.Fr i).size ≤ maxLen
  kt : ∀ i, i < m → (K.To i).size ≤ maxLen
  ks : ∀ i, i < m → (K.Sc i).size ≤ maxLen
  kc : ∀ i, i < m → K.CN i ≤ 2000
theorem blk2 {w : World} {g : Nat} {t : TypeId} {a b : Value} (h : Blk w g t #[a, b]) : w.cell? ⟨g, 0, none⟩ = some a ∧ w.cell? ⟨g, 1, none⟩ = some b := ⟨h.cell 0, h.cell 1⟩
theorem blk9 {w : World} {g : Nat} {t : TypeId} {a b c d e f i j k : Value} (h : Blk w g t #[a, b, c, d, e, f, i, j, k]) : w.cell? ⟨g, 0, none⟩ = some a ∧ w.cell? ⟨g, 1, none⟩ = some b ∧ w.cell? ⟨g, 2, none⟩ = some c ∧ w.cell? ⟨g, 3, none⟩ = some d ∧ w.cell? ⟨g, 4, none⟩ = some e ∧ w.cell? ⟨g, 5, none⟩ = some f ∧ w.cell? ⟨g, 6, none⟩ = some i ∧ w.cell? ⟨g, 7, none⟩ = some j ∧ w.cell? ⟨g, 8, none⟩ = some k := ⟨h.cell 0, h.cell 1, h.cell 2, h.cell 3, h.cell 4, h.cell 5, h.cell 6, h.cell 7, h.cell 8⟩
theorem blk11 {w : World} {g : Nat} {t : TypeId} {a b c d e f i j k l m : Value} (h : Blk w g t #[a, b, c, d, e, f, i, j, k, l, m]) : w.cell? ⟨g, 0, none⟩ = some a ∧ w.cell? ⟨g, 1, none⟩ = some b ∧ w.cell? ⟨g, 2, none⟩ = some c ∧ w.cell? ⟨g, 3, none⟩ = some d ∧ w.cell? ⟨g, 4, none⟩ = some e ∧ w.cell? ⟨g, 5, none⟩ = some f ∧ w.cell? ⟨g, 6, none⟩ = some i ∧ w.cell? ⟨g, 7, none⟩ = some j ∧ w.cell? ⟨g, 8, none⟩ = some k ∧ w.cell? ⟨g, 9, none⟩ = some l ∧ w.cell? ⟨g, 10, none⟩ = some m := ⟨h.cell 0, h.cell 1, h.cell 2, h.cell 3, h.cell 4, h.cell 5, h.cell 6, h.cell 7, h.cell 8, h.cell 9, h.cell 10⟩
end Go.Proofs.YtdgfljkhnifemaaGreatDoor

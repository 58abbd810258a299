/- States of networks: how they lie in memory, which are valid; levels. Plain. -/
import Derived.Test.YtfgakaielfekoaaGreatDoorNetP
import Derived.Test.YtfgakaielfekoaaGreatDoorMgA
namespace Go.Proofs.YtfgakaielfekoaaGreatDoor
open Go.RowKit
set_option linter.unusedVariables false
set_option linter.unusedSimpArgs false

/-- Bools from an address on. -/
def BoolIn (w : World) (A : Option Addr) (n : Nat) (C : Nat → Bool) : Prop := n ≤ 9223372036854775807 ∧ (n = 0 ∨ ∃ b off, A = some ⟨b, off, none⟩ ∧ b < w.heap.size ∧ ∀ k, k < n → w.cell? ⟨b, off + k, none⟩ = some (.bool (C k)))
theorem BoolIn.below {w w' : World} {B n : Nat} {A : Option Addr} {C : Nat → Bool} (h : BoolIn w A n C) (hB : w.heap.size ≤ B) (hb : Below B w w') : BoolIn w' A n C := by
  refine ⟨h.1, ?_⟩
  rcases h.2 with h0 | ⟨b, off, hA, h1, h2⟩
  · exact .inl h0
  · exact .inr ⟨b, off, hA, Nat.lt_of_lt_of_le h1 hb.size, fun k hk => (hb.cell (p := ⟨b, off + k, none⟩) (Nat.lt_of_lt_of_le h1 hB)).trans (h2 k hk)⟩
theorem BoolIn.at {w : World} {A : Option Addr} {n k : Nat} {C : Nat → Bool} (h : BoolIn w A n C) (hk : k < n) : ∃ b off, A = some ⟨b, off, none⟩ ∧ b < w.heap.size ∧ w.cell? ⟨b, off + k, none⟩ = some (.bool (C k)) := by
  rcases h.2 with h0 | ⟨b, off, hA, h1, h2⟩
  · omega
  · exact ⟨b, off, hA, h1, h2 k hk⟩
structure Sts where
  VA : Nat → Option Addr
  VN : Nat → Nat
  VC : Nat → Nat
  V : Nat → Nat → Int
  PA : Nat → Option Addr
  PN : Nat → Nat
  PC : Nat → Nat
  P : Nat → Nat → Int
  SA : Nat → Option Addr
  SN : Nat → Nat
  SC : Nat → Nat
  S : Nat → Nat → Int
  OA : Nat → Option Addr
  ON : Nat → Nat
  OC : Nat → Nat
  O : Nat → Nat → Bool
def Sts.vals (S : Sts) (k : Nat) : List Value := [.slice (S.VA k) (S.VN k) (S.VC k), .slice (S.PA k) (S.PN k) (S.PC k), .slice (S.SA k) (S.SN k) (S.SC k), .slice (S.OA k) (S.ON k) (S.OC k)]
/-- The lists of a state. -/
def StL (w : World) (S : Sts) (k : Nat) : Prop := IntIn w (S.VA k) (S.VN k) (S.V k) ∧ IntIn w (S.PA k) (S.PN k) (S.P k) ∧ IntIn w (S.SA k) (S.SN k) (S.S k) ∧ BoolIn w (S.OA k) (S.ON k) (S.O k)
theorem StL.below {w w' : World} {B k : Nat} {S : Sts} (h : StL w S k) (hB : w.heap.size ≤ B) (hb : Below B w w') : StL w' S k := ⟨h.1.below hB hb, h.2.1.below hB hb, h.2.2.1.below hB hb, h.2.2.2.below hB hb⟩
def StAt (w : World) (b off n : Nat) (S : Sts) : Prop := b < w.heap.size ∧ ∀ k, k < n → CellsAt w b (off + k * 4) (S.vals k) ∧ StL w S k
def StIn (w : World) (A : Option Addr) (n : Nat) (S : Sts) : Prop := n ≤ 9223372036854775807 ∧ (n = 0 ∨ ∃ b off, A = some ⟨b, off, none⟩ ∧ StAt w b off n S)
theorem StIn.below {w w' : World} {B n : Nat} {A : Option Addr} {S : Sts} (h : StIn w A n S) (hB : w.heap.size ≤ B) (hb : Below B w w') : StIn w' A n S := by
  refine ⟨h.1, ?_⟩
  rcases h.2 with h0 | ⟨b, off, hA, ht⟩
  · exact .inl h0
  · exact .inr ⟨b, off, hA, Nat.lt_of_lt_of_le ht.1 hb.size, fun k hk => ⟨(ht.2 k hk).1.below hb (Nat.lt_of_lt_of_le ht.1 hB), (ht.2 k hk).2.below hB hb⟩⟩
theorem StIn.at {w : World} {A : Option Addr} {n k : Nat} {S : Sts} (h : StIn w A n S) (hk : k < n) : ∃ b off, A = some ⟨b, off, none⟩ ∧ b < w.heap.size ∧ CellsAt w b (off + k * 4) (S.vals k) ∧ StL w S k := by
  rcases h.2 with h0 | ⟨b, off, hA, ht⟩
  · omega
  · exact ⟨b, off, hA, ht.1, ht.2 k hk⟩
/-- The capacity of a right node. -/
def capF (D : Nds) (i : Nat) : Int := if D.Kd i = 3 then 0 else D.SY i (D.SN i - 1)
def stNP (D : Nds) (S : Sts) (k i : Nat) : Prop := (0 ≤ S.V k i ∧ S.V k i ≤ capF D i) ∧ (0 ≤ S.P k i ∧ S.P k i ≤ 1125899906842624) ∧ (D.Kd i = 3 → S.P k i = 0)
def stLP (K : Lks) (S : Sts) (k i : Nat) : Prop := (0 ≤ S.S k i ∧ S.S k i ≤ 1000) ∧ (S.O k i = true → K.Kd i = 4)
/-- A state is valid for a valid network. -/
def stP (D : Nds) (n : Nat) (K : Lks) (m : Nat) (S : Sts) (k : Nat) : Prop := S.VN k = n ∧ S.PN k = n ∧ S.SN k = m ∧ S.ON k = m ∧ (∀ i, i < n → stNP D S k i) ∧ ∀ i, i < m → stLP K S k i
open Classical in
/-- The greatest place at which a table is at most a number. -/
noncomputable def mostF (X Y : Nat → Int) (m : Nat) (y : Int) : Int := if h : ∃ z, Val.MostAt X Y m y z then h.choose else 0
theorem most_uniq {X Y : Nat → Int} {m : Nat} {y a b : Int} (ha : Val.Asc X Y m) (h1 : Val.MostAt X Y m y a) (h2 : Val.MostAt X Y m y b) : a = b := by
  have l1 := (Val.most_in ha h1).2
  have l2 := (Val.most_in ha h2).2
  have e1 := (Val.most_iff ha h1 l2).symm.trans (Val.most_iff ha h2 l2)
  have e2 := (Val.most_iff ha h1 l1).symm.trans (Val.most_iff ha h2 l1)
  have := e1.2 (Int.le_refl _)
  have := e2.1 (Int.le_refl _)
  omega
theorem most_eq {X Y : Nat → Int} {m : Nat} {y z : Int} (ha : Val.Asc X Y m) (h : Val.MostAt X Y m y z) : mostF X Y m y = z := by
  unfold mostF
  rw [dif_pos ⟨z, h⟩]
  exact most_uniq ha (Exists.choose_spec ⟨z, h⟩) h
theorem most_spec {X Y : Nat → Int} {m : Nat} {y : Int} (hv : TabOK (m + 1) X Y) (hy : Y 0 ≤ y) : Val.MostAt X Y m y (mostF X Y m y) := by
  obtain ⟨v, e, h, _⟩ := most_both m X Y y hv
  rcases h with ⟨h, _⟩ | ⟨h, _⟩
  · rw [most_eq (asc_of hv) h]; exact h
  · omega
theorem most_mono {X Y : Nat → Int} {m : Nat} {y z : Int} (hv : TabOK (m + 1) X Y) (hy : Y 0 ≤ y) (h : y ≤ z) : mostF X Y m y ≤ mostF X Y m z := by
  have a := most_spec hv hy
  have b := most_spec hv (by omega : Y 0 ≤ z)
  have i := Val.most_in (asc_of hv) a
  refine (Val.most_iff (asc_of hv) b i.2).1 ?_
  have := (Val.most_iff (asc_of hv) a i.2).2 (Int.le_refl _)
  omega
/-- The level of a right node at a volume. -/
noncomputable def lvF (D : Nds) (i : Nat) (v : Int) : Int := if D.Kd i = 3 then D.Iv i else D.Iv i + mostF (D.SX i) (D.SY i) (D.SN i - 1) v
/-- The greatest of some numbers, and 0. -/
def mx (f : Nat → Int) : Nat → Int
  | 0 => 0
  | k + 1 => if mx f k < f k then f k else mx f k
theorem mx_nn (f : Nat → Int) : ∀ k, 0 ≤ mx f k
  | 0 => Int.le_refl _
  | k + 1 => by
    have := mx_nn f k
    unfold mx
    split <;> omega
theorem mx_ge (f : Nat → Int) : ∀ {s k : Nat}, k < s → f k ≤ mx f s
  | 0, _, h => by omega
  | s + 1, k, h => by
    unfold mx
    by_cases e : k = s
    · subst e; split <;> omega
    · have := mx_ge f (s := s) (k := k) (by omega)
      split <;> omega
theorem mx_is (f : Nat → Int) : ∀ s, mx f s = 0 ∨ ∃ k, k < s ∧ mx f s = f k
  | 0 => .inl rfl
  | s + 1 => by
    unfold mx
    split
    · exact .inr ⟨s, by omega, rfl⟩
    · rcases mx_is f s with h | ⟨k, hk, h⟩
      · exact .inl h
      · exact .inr ⟨k, by omega, h⟩
/-- The greatest of levels, as the reference finds it. -/
noncomputable def rx (L : Int → Int) (f : Nat → Int) : Nat → Int
  | 0 => L (f 0)
  | k + 1 => if rx L f k < L (f k) then L (f k) else rx L f k
theorem rx_eq (L : Int → Int) (f : Nat → Int) {s : Nat} (hs : 1 ≤ s) (h0 : ∀ k, k < s → 0 ≤ f k) (hm : ∀ y z, 0 ≤ y → y ≤ z → L y ≤ L z) : rx L f s = L (mx f s) := by
  have key : ∀ k, k + 1 ≤ s → rx L f (k + 1) = L (mx f (k + 1)) := by
    intro k
    induction k with
    | zero =>
      intro h
      have := h0 0 (by omega)
      show (if L (f 0) < L (f 0) then L (f 0) else L (f 0)) = L (if (0 : Int) < f 0 then f 0 else 0)
      rw [if_neg (Int.lt_irrefl _)]
      split
      · rfl
      · have : f 0 = 0 := by omega
        rw [this]
    | succ k ih =>
      intro h
      have e := ih (by omega)
      have a := mx_nn f (k + 1)
      have b := h0 (k + 1) (by omega)
      show (if rx L f (k + 1) < L (f (k + 1)) then L (f (k + 1)) else rx L f (k + 1)) = L (if mx f (k + 1) < f (k + 1) then f (k + 1) else mx f (k + 1))
      rw [e]
      by_cases g : mx f (k + 1) < f (k + 1)
      · rw [if_pos g]
        have := hm _ _ a (by omega : mx f (k + 1) ≤ f (k + 1))
        split
        · rfl
        · omega
      · rw [if_neg g]
        have := hm _ _ b (by omega : f (k + 1) ≤ mx f (k + 1))
        rw [if_neg (by omega)]
  obtain ⟨k, rfl⟩ : ∃ k, s = k + 1 := ⟨s - 1, by omega⟩
  exact key k (Nat.le_refl _)
theorem lv_mono {D : Nds} {i : Nat} (hv : D.Kd i ≠ 3 → TabOK (D.SN i) (D.SX i) (D.SY i) ∧ D.SY i 0 = 0) {y z : Int} (hy : 0 ≤ y) (h : y ≤ z) : lvF D i y ≤ lvF D i z := by
  unfold lvF
  by_cases hk : D.Kd i = 3
  · rw [if_pos hk, if_pos hk]; exact Int.le_refl _
  · rw [if_neg hk, if_neg hk]
    obtain ⟨h1, h2⟩ := hv hk
    have hn : 1 ≤ D.SN i := h1.1
    have e : D.SN i - 1 + 1 = D.SN i := by omega
    have := most_mono (X := D.SX i) (Y := D.SY i) (m := D.SN i - 1) (y := y) (z := z) (by rw [e]; exact h1) (by omega) h
    omega
end Go.Proofs.YtfgakaielfekoaaGreatDoor

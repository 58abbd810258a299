/- Networks: how nodes and links lie in memory; which nodes and links are right. Plain. -/
import Derived.Test.YtdgfljkhnifemaaGreatDoorCurve
import Derived.Test.YtdgfljkhnifemaaGreatDoorMgB
namespace Go.Proofs.YtdgfljkhnifemaaGreatDoor
open Go.RowKit
set_option linter.unusedVariables false
set_option linter.unusedSimpArgs false

/-- Cells that lie one behind the other. -/
def CellsAt (w : World) (b o : Nat) (vs : List Value) : Prop := ∀ i v, vs[i]? = some v → w.cell? ⟨b, o + i, none⟩ = some v
theorem CellsAt.below {w w' : World} {B b o : Nat} {vs : List Value} (h : CellsAt w b o vs) (hb : Below B w w') (hB : b < B) : CellsAt w' b o vs := fun i v hi => (hb.cell (p := ⟨b, o + i, none⟩) hB).trans (h i v hi)
theorem Blk.cells {w : World} {g : Nat} {t : TypeId} {cs : Array Value} (h : Blk w g t cs) : CellsAt w g 0 cs.toList := fun i v hi => by
  rw [Nat.zero_add, h.cell i]
  simpa using hi
structure Nds where
  Nm : Nat → ByteArray
  Kd : Nat → Int
  Ax : Nat → Int
  Ay : Nat → Int
  Iv : Nat → Int
  Gd : Nat → Int
  SA : Nat → Option Addr
  SN : Nat → Nat
  SC : Nat → Nat
  SX : Nat → Nat → Int
  SY : Nat → Nat → Int
  Pt : Nat → Bool
  Rs : Nat → Int
def Nds.vals (D : Nds) (k : Nat) : List Value := [.string (D.Nm k), .int .i64 (D.Kd k), .int .i64 (D.Ax k), .int .i64 (D.Ay k), .int .i64 (D.Iv k), .int .i64 (D.Gd k), .slice (D.SA k) (D.SN k) (D.SC k), .bool (D.Pt k), .int .i64 (D.Rs k)]
def NdAt (w : World) (b off n : Nat) (D : Nds) : Prop := b < w.heap.size ∧ ∀ k, k < n → CellsAt w b (off + k * 9) (D.vals k) ∧ TabIn w (D.SA k) (D.SN k) (D.SX k) (D.SY k)
def NdIn (w : World) (A : Option Addr) (n : Nat) (D : Nds) : Prop := n ≤ 9223372036854775807 ∧ (n = 0 ∨ ∃ b off, A = some ⟨b, off, none⟩ ∧ NdAt w b off n D)
theorem NdIn.below {w w' : World} {B n : Nat} {A : Option Addr} {D : Nds} (h : NdIn w A n D) (hB : w.heap.size ≤ B) (hb : Below B w w') : NdIn w' A n D := by
  refine ⟨h.1, ?_⟩
  rcases h.2 with h0 | ⟨b, off, hA, ht⟩
  · exact .inl h0
  · exact .inr ⟨b, off, hA, Nat.lt_of_lt_of_le ht.1 hb.size, fun k hk => ⟨(ht.2 k hk).1.below hb (Nat.lt_of_lt_of_le ht.1 hB), (ht.2 k hk).2.below hB hb⟩⟩
theorem NdIn.at {w : World} {A : Option Addr} {n k : Nat} {D : Nds} (h : NdIn w A n D) (hk : k < n) : ∃ b off, A = some ⟨b, off, none⟩ ∧ b < w.heap.size ∧ CellsAt w b (off + k * 9) (D.vals k) ∧ TabIn w (D.SA k) (D.SN k) (D.SX k) (D.SY k) := by
  rcases h.2 with h0 | ⟨b, off, hA, ht⟩
  · omega
  · exact ⟨b, off, hA, ht.1, ht.2 k hk⟩
structure Lks where
  Nm : Nat → ByteArray
  Fr : Nat → ByteArray
  To : Nat → ByteArray
  Kd : Nat → Int
  Ln : Nat → Int
  Up : Nat → Int
  Dn : Nat → Int
  Sc : Nat → ByteArray
  Wd : Nat → Int
  Ht : Nat → Int
  CA : Nat → Option Addr
  CN : Nat → Nat
  CC : Nat → Nat
  CX : Nat → Nat → Int
  CY : Nat → Nat → Int
def Lks.vals (D : Lks) (k : Nat) : List Value := [.string (D.Nm k), .string (D.Fr k), .string (D.To k), .int .i64 (D.Kd k), .int .i64 (D.Ln k), .int .i64 (D.Up k), .int .i64 (D.Dn k), .string (D.Sc k), .int .i64 (D.Wd k), .int .i64 (D.Ht k), .slice (D.CA k) (D.CN k) (D.CC k)]
def LkAt (w : World) (b off n : Nat) (D : Lks) : Prop := b < w.heap.size ∧ ∀ k, k < n → CellsAt w b (off + k * 11) (D.vals k) ∧ TabIn w (D.CA k) (D.CN k) (D.CX k) (D.CY k)
def LkIn (w : World) (A : Option Addr) (n : Nat) (D : Lks) : Prop := n ≤ 9223372036854775807 ∧ (n = 0 ∨ ∃ b off, A = some ⟨b, off, none⟩ ∧ LkAt w b off n D)
theorem LkIn.below {w w' : World} {B n : Nat} {A : Option Addr} {D : Lks} (h : LkIn w A n D) (hB : w.heap.size ≤ B) (hb : Below B w w') : LkIn w' A n D := by
  refine ⟨h.1, ?_⟩
  rcases h.2 with h0 | ⟨b, off, hA, ht⟩
  · exact .inl h0
  · exact .inr ⟨b, off, hA, Nat.lt_of_lt_of_le ht.1 hb.size, fun k hk => ⟨(ht.2 k hk).1.below hb (Nat.lt_of_lt_of_le ht.1 hB), (ht.2 k hk).2.below hB hb⟩⟩
theorem LkIn.at {w : World} {A : Option Addr} {n k : Nat} {D : Lks} (h : LkIn w A n D) (hk : k < n) : ∃ b off, A = some ⟨b, off, none⟩ ∧ b < w.heap.size ∧ CellsAt w b (off + k * 11) (D.vals k) ∧ TabIn w (D.CA k) (D.CN k) (D.CX k) (D.CY k) := by
  rcases h.2 with h0 | ⟨b, off, hA, ht⟩
  · omega
  · exact ⟨b, off, hA, ht.1, ht.2 k hk⟩
/-- Ints from an address on. -/
def IntIn (w : World) (A : Option Addr) (n : Nat) (C : Nat → Int) : Prop := n ≤ 9223372036854775807 ∧ (n = 0 ∨ ∃ b off, A = some ⟨b, off, none⟩ ∧ b < w.heap.size ∧ ∀ k, k < n → w.cell? ⟨b, off + k, none⟩ = some (.int .i64 (C k)))
theorem IntIn.below {w w' : World} {B n : Nat} {A : Option Addr} {C : Nat → Int} (h : IntIn w A n C) (hB : w.heap.size ≤ B) (hb : Below B w w') : IntIn w' A n C := by
  refine ⟨h.1, ?_⟩
  rcases h.2 with h0 | ⟨b, off, hA, h1, h2⟩
  · exact .inl h0
  · exact .inr ⟨b, off, hA, Nat.lt_of_lt_of_le h1 hb.size, fun k hk => (hb.cell (p := ⟨b, off + k, none⟩) (Nat.lt_of_lt_of_le h1 hB)).trans (h2 k hk)⟩
theorem IntIn.at {w : World} {A : Option Addr} {n k : Nat} {C : Nat → Int} (h : IntIn w A n C) (hk : k < n) : ∃ b off, A = some ⟨b, off, none⟩ ∧ b < w.heap.size ∧ w.cell? ⟨b, off + k, none⟩ = some (.int .i64 (C k)) := by
  rcases h.2 with h0 | ⟨b, off, hA, h1, h2⟩
  · omega
  · exact ⟨b, off, hA, h1, h2 k hk⟩
def lvP (z : Int) : Prop := -4194304 ≤ z ∧ z ≤ 4194304
instance (z : Int) : Decidable (lvP z) := by unfold lvP; exact inferInstance
def poP (z : Int) : Prop := -16777216 ≤ z ∧ z ≤ 16777216
instance (z : Int) : Decidable (poP z) := by unfold poP; exact inferInstance
/-- A node is right. -/
def nodeP (nm : ByteArray) (kd ax ay iv gd : Int) (n : Nat) (X Y : Nat → Int) (pt : Bool) (rs : Int) : Prop :=
  nameB nm.data.toList = true ∧ poP ax ∧ poP ay ∧ (lvP iv ∧ lvP gd) ∧
  ((kd = 3 ∧ iv ≤ gd ∧ n = 0 ∧ pt = false ∧ rs = 0) ∨
   ((kd = 1 ∨ kd = 2) ∧ iv < gd ∧ CurveOK n X Y (gd - iv) 1125899906842624 ∧ ((pt = false ∧ rs = 0) ∨ (pt = true ∧ kd = 2 ∧ 0 ≤ rs ∧ rs ≤ Y (n - 1)))))
/-- The curve of a pump is right. -/
def pumpP (n : Nat) (X Y : Nat → Int) : Prop := TabOK n X Y ∧ ∀ k, k < n → (0 ≤ X k ∧ X k ≤ 4194304) ∧ (0 ≤ Y k ∧ Y k ≤ 1099511627776)
/-- A link is right. -/
def linkP (nm fr tn : ByteArray) (kd ln up dn : Int) (sc : ByteArray) (wd ht : Int) (n : Nat) (X Y : Nat → Int) : Prop :=
  nameB nm.data.toList = true ∧ nameB fr.data.toList = true ∧ nameB tn.data.toList = true ∧ fr ≠ tn ∧ lvP up ∧ lvP dn ∧
  ((kd = 1 ∧ (1 ≤ ln ∧ ln ≤ 16777216) ∧ nameB sc.data.toList = true ∧ wd = 0 ∧ ht = 0 ∧ n = 0) ∨
   (kd = 2 ∧ ln = 0 ∧ dn = 0 ∧ sc.size = 0 ∧ (1 ≤ wd ∧ wd ≤ 1048576) ∧ ht = 0 ∧ n = 0) ∨
   (kd = 3 ∧ ln = 0 ∧ dn = 0 ∧ sc.size = 0 ∧ (1 ≤ wd ∧ wd ≤ 32768) ∧ (1 ≤ ht ∧ ht ≤ 32768) ∧ n = 0) ∨
   (kd = 4 ∧ ln = 0 ∧ dn < up ∧ sc.size = 0 ∧ wd = 0 ∧ ht = 0 ∧ pumpP n X Y))
end Go.Proofs.YtdgfljkhnifemaaGreatDoor

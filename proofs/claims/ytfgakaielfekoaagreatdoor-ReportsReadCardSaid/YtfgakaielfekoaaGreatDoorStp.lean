/- Valid states, unbundled. Plain. -/
import Derived.Test.YtfgakaielfekoaaGreatDoorSto
import Derived.Test.YtfgakaielfekoaaGreatDoorNetQ
namespace Go.Proofs.YtfgakaielfekoaaGreatDoor
open Go.RowKit
set_option linter.unusedVariables false
set_option linter.unusedSimpArgs false

def stnQ (D : Nds) (V P : Nat → Int) (i : Nat) : Prop := (0 ≤ V i ∧ V i ≤ capF D i) ∧ (0 ≤ P i ∧ P i ≤ 1125899906842624) ∧ (D.Kd i = 3 → P i = 0)
def stlQ (K : Lks) (Q : Nat → Int) (O : Nat → Bool) (i : Nat) : Prop := (0 ≤ Q i ∧ Q i ≤ 1000) ∧ (O i = true → K.Kd i = 4)
def stQ (D : Nds) (n : Nat) (K : Lks) (m vn pn qn on : Nat) (V P Q : Nat → Int) (O : Nat → Bool) : Prop := vn = n ∧ pn = n ∧ qn = m ∧ on = m ∧ (∀ i, i < n → stnQ D V P i) ∧ ∀ i, i < m → stlQ K Q O i
theorem ndP.shape {D : Nds} {i : Nat} (h : ndP D i) : D.Kd i ≠ 3 → 1 ≤ D.SN i ∧ D.SN i ≤ 100 := fun hk => by
  rcases h.2.2.2.2 with h | ⟨_, _, h, _⟩
  · exact absurd h.1 hk
  · exact ⟨h.1.1, h.1.2.1⟩
theorem blk_two (w : World) (t1 t2 : TypeId) (c1 c2 : Array Value) : Blk ((w.alloc (Obj.cells c1 t1)).alloc (Obj.cells c2 t2)) w.heap.size t1 c1 ∧ Blk ((w.alloc (Obj.cells c1 t1)).alloc (Obj.cells c2 t2)) (w.heap.size + 1) t2 c2 :=
  ⟨(Blk.new _ _ _).alloc _, by have h := Blk.new (w.alloc (Obj.cells c1 t1)) t2 c2; simpa using h⟩
theorem blk4 {w : World} {g : Nat} {t : TypeId} {a b c d : Value} (h : Blk w g t #[a, b, c, d]) : w.cell? ⟨g, 0, none⟩ = some a ∧ w.cell? ⟨g, 1, none⟩ = some b ∧ w.cell? ⟨g, 2, none⟩ = some c ∧ w.cell? ⟨g, 3, none⟩ = some d := ⟨h.cell 0, h.cell 1, h.cell 2, h.cell 3⟩
theorem stQ_of (D : Nds) (n : Nat) (K : Lks) (m : Nat) (S : Sts) (k : Nat) : stQ D n K m (S.VN k) (S.PN k) (S.SN k) (S.ON k) (S.V k) (S.P k) (S.S k) (S.O k) = stP D n K m S k := rfl
end Go.Proofs.YtfgakaielfekoaaGreatDoor

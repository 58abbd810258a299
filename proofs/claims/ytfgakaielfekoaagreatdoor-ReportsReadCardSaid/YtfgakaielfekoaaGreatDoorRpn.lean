/- What the reports on nodes and on overflows say. Plain. -/
import Derived.Test.YtfgakaielfekoaaGreatDoorMgD
import Derived.Test.YtfgakaielfekoaaGreatDoorStp
import Derived.Test.YtfgakaielfekoaaGreatDoorMgC
namespace Go.Proofs.YtfgakaielfekoaaGreatDoor
open Go.RowKit
set_option linter.unusedVariables false
set_option linter.unusedSimpArgs false

def stsP (D : Nds) (n : Nat) (K : Lks) (m : Nat) (S : Sts) (s : Nat) : Prop := netP D n K m ∧ ∀ k, k < s → stP D n K m S k
def bsx (l : List UInt8) : ByteArray := ⟨l.toArray⟩
def numB (z : Int) : ByteArray := ⟨(Lib.itoa z).toArray⟩
def wLv : ByteArray := ⟨#[108, 101, 118, 101, 108]⟩
def wPd : ByteArray := ⟨#[112, 111, 110, 100, 101, 100]⟩
def wEvs : ByteArray := ⟨#[101, 118, 101, 110, 116, 115]⟩
def wVol : ByteArray := ⟨#[118, 111, 108, 117, 109, 101]⟩
def wLon : ByteArray := ⟨#[108, 111, 110, 103, 101, 115, 116]⟩
/-- A name, a word, and a number. -/
def ln3 (nm wd : ByteArray) (z : Int) : ByteArray := bsx (jn [nm, wd, numB z])
/-- The greatest volume, and the greatest volume on the ground, of a node. -/
def mxV (S : Sts) (s i : Nat) : Int := mx (fun k => S.V k i) s
def mxP (S : Sts) (s i : Nat) : Int := mx (fun k => S.P k i) s
noncomputable def nout (D : Nds) (S : Sts) (s : Nat) : Nat → List ByteArray
  | 0 => []
  | i + 1 => nout D S s i ++ [ln3 (D.Nm i) wLv (lvF D i (mxV S s i)), ln3 (D.Nm i) wPd (mxP S s i)]
theorem nout_len (D : Nds) (S : Sts) (s : Nat) : ∀ n, (nout D S s n).length = 2 * n
  | 0 => rfl
  | n + 1 => by
    show (nout D S s n ++ _).length = _
    rw [List.length_append, nout_len D S s n]
    simp
    omega
/-- What Nodes says: lines, and an error. -/
def NodesIs (D : Nds) (n : Nat) (K : Lks) (m : Nat) (S : Sts) (s : Nat) (R : List ByteArray) (er : Int) : Prop :=
  (¬ stsP D n K m S s ∧ R = [] ∧ er = 1) ∨ (stsP D n K m S s ∧ s = 0 ∧ R = [] ∧ er = 14) ∨ (stsP D n K m S s ∧ 1 ≤ s ∧ R = nout D S s n ∧ er = 0)
/-- The spills of a node. -/
def oev (S : Sts) (s i : Nat) : List Sp := runs (fun k => S.P k i) s
def lonS (R : List Sp) : Int := mx (fun k => (evsOf R).To k - (evsOf R).F k) R.length
noncomputable def olin (D : Nds) (S : Sts) (s : Nat) (sec : Int) (i : Nat) : List ByteArray :=
  if oev S s i = [] then [] else [ln3 (D.Nm i) wEvs ((oev S s i).length : Int), ln3 (D.Nm i) wVol (psum (evsOf (oev S s i)).Tot (oev S s i).length), ln3 (D.Nm i) wLon (lonS (oev S s i) * sec)]
noncomputable def oout (D : Nds) (S : Sts) (s : Nat) (sec : Int) : Nat → List ByteArray
  | 0 => []
  | i + 1 => oout D S s sec i ++ olin D S s sec i
theorem oout_len (D : Nds) (S : Sts) (s : Nat) (sec : Int) : ∀ n, (oout D S s sec n).length ≤ 3 * n
  | 0 => Nat.le_refl _
  | n + 1 => by
    show (oout D S s sec n ++ olin D S s sec n).length ≤ _
    have := oout_len D S s sec n
    rw [List.length_append]
    unfold olin
    split
    · simp; omega
    · simp; omega
/-- What Overflows says. -/
def OverIs (D : Nds) (n : Nat) (K : Lks) (m : Nat) (S : Sts) (s : Nat) (sec : Int) (R : List ByteArray) (er : Int) : Prop :=
  (¬ stsP D n K m S s ∧ R = [] ∧ er = 1) ∨ (stsP D n K m S s ∧ ¬ (1 ≤ sec ∧ sec ≤ 86400) ∧ R = [] ∧ er = 2) ∨ (stsP D n K m S s ∧ (1 ≤ sec ∧ sec ≤ 86400) ∧ R = oout D S s sec n ∧ er = 0)
/-- Lines and an error, that a call leaves. -/
def LinPost (w : World) (Is : List ByteArray → Int → Prop) (e : Ending) (w' : World) : Prop := ∃ (R : List ByteArray) (er : Int) (A : Option Addr) (N cap : Nat), Is R er ∧ e = .returned (.tuple #[.slice A N cap, .int .i64 er]) ∧ N = R.length ∧ N ≤ cap ∧ StrIn w' A N (fun k => R.getD k ByteArray.empty) ∧ Below w.heap.size w w'
theorem lin_nil {w w' : World} {Is : List ByteArray → Int → Prop} {er : Int} (h : Is [] er) (hb : Below w.heap.size w w') : LinPost w Is (.returned (.tuple #[.slice none 0 0, .int .i64 er])) w' :=
  ⟨[], er, none, 0, 0, h, rfl, rfl, Nat.le_refl _, ⟨by omega, .inl rfl⟩, hb⟩
theorem RMem5.lin {w w1 wr : World} {Is : List ByteArray → Int → Prop} {u : Value} {R : List ByteArray} {N : Nat} (h : RMem5 w1 wr u N R) (hw : Below w.heap.size w w1) (hN : N = R.length) (hb : N ≤ 2000) (hR : Is R 0) : LinPost w Is (.returned (.tuple #[u, .int .i64 0])) wr := by
  rcases h.1.2 with ⟨hv, h0⟩ | ⟨g, cap, cur, hv, _, _, hnc, _⟩
  · exact ⟨R, 0, none, N, 0, hR, by rw [hv, h0], hN, by omega, ⟨by omega, .inl h0⟩, below_step hw h.2⟩
  · have hown := h.1
    rw [hv, hN] at hown
    exact ⟨R, 0, some ⟨g, 0, none⟩, N, cap, hR, by rw [hv], hN, hnc, ⟨by omega, .inr ⟨g, 0, rfl, by rw [hN]; exact str_of_own hown⟩⟩, below_step hw h.2⟩
/-- What valid states give. -/
theorem stsP.node {D : Nds} {n : Nat} {K : Lks} {m : Nat} {S : Sts} {s i : Nat} (h : stsP D n K m S s) (hi : i < n) : ndP D i := (h.1.2.2.1 i hi).1
theorem stsP.vol {D : Nds} {n : Nat} {K : Lks} {m : Nat} {S : Sts} {s k i : Nat} (h : stsP D n K m S s) (hk : k < s) (hi : i < n) : (0 ≤ S.V k i ∧ S.V k i ≤ capF D i) ∧ (0 ≤ S.P k i ∧ S.P k i ≤ 1125899906842624) ∧ i < S.VN k ∧ i < S.PN k := by
  have a := h.2 k hk
  have b := a.2.2.2.2.1 i hi
  exact ⟨b.1, b.2.1, by rw [a.1]; exact hi, by rw [a.2.1]; exact hi⟩
theorem ndP.lv {D : Nds} {i : Nat} (h : ndP D i) : (-4194304 ≤ D.Iv i ∧ D.Iv i ≤ 4194304) ∧ (D.Kd i ≠ 3 → TabOK (D.SN i) (D.SX i) (D.SY i) ∧ D.SY i 0 = 0) ∧ capF D i ≤ 1125899906842624 := by
  have hl := h.2.2.2.1.1
  refine ⟨hl, fun hk => ?_, ?_⟩
  · rcases h.2.2.2.2 with g | ⟨_, _, g, _⟩
    · exact absurd g.1 hk
    · exact ⟨g.1, g.2.2.1⟩
  · unfold capF
    split
    · omega
    · rename_i hk
      rcases h.2.2.2.2 with g | ⟨_, _, g, _⟩
      · exact absurd g.1 hk
      · exact g.2.2.2.2
theorem lv_bd {D : Nds} {i : Nat} (h : ndP D i) {v : Int} (hv : 0 ≤ v) : -4294967296000000 < lvF D i v ∧ lvF D i v < 4294967296000000 := by
  obtain ⟨h1, h2, _⟩ := h.lv
  unfold lvF
  split
  · omega
  · rename_i hk
    obtain ⟨h3, h4⟩ := h2 hk
    have h5 := h3.1
    obtain ⟨m, hm⟩ : ∃ m, D.SN i = m + 1 := ⟨D.SN i - 1, by omega⟩
    rw [hm] at h3 ⊢
    rw [Nat.add_sub_cancel]
    have a := most_spec h3 (by omega : D.SY i 0 ≤ v)
    have j := Val.most_in (asc_of h3) a
    have b0 := (in_of h3 (k := 0) (by omega)).1
    have b1 := (in_of h3 (k := m) (by omega)).1
    omega
theorem mx_le {f : Nat → Int} {s : Nat} {z : Int} (h0 : 0 ≤ z) (h : ∀ k, k < s → f k ≤ z) : mx f s ≤ z := by
  rcases mx_is f s with e | ⟨k, hk, e⟩
  · omega
  · have := h k hk; omega
end Go.Proofs.YtfgakaielfekoaaGreatDoor

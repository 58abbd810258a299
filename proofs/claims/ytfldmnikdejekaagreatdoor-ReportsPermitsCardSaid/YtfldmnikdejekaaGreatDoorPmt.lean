/- Lists of permits, and lists of lists of events; what a report on permits says. Plain. -/
import Derived.Test.YtfldmnikdejekaaGreatDoorJoinP
import Derived.Test.YtfldmnikdejekaaGreatDoorYwP
namespace Go.Proofs.YtfldmnikdejekaaGreatDoor
open Go.RowKit
set_option linter.unusedVariables false
set_option linter.unusedSimpArgs false

structure Pms where
  Nm : Nat → ByteArray
  Nd : Nat → ByteArray
  Ev : Nat → Int
  Vol : Nat → Int
  Tot : Nat → Int
def PmAt (w : World) (b off n : Nat) (P : Pms) : Prop := b < w.heap.size ∧ ∀ k, k < n → w.cell? ⟨b, off + k * 5, none⟩ = some (.string (P.Nm k)) ∧ w.cell? ⟨b, off + k * 5 + 1, none⟩ = some (.string (P.Nd k)) ∧ w.cell? ⟨b, off + k * 5 + 2, none⟩ = some (.int .i64 (P.Ev k)) ∧ w.cell? ⟨b, off + k * 5 + 3, none⟩ = some (.int .i64 (P.Vol k)) ∧ w.cell? ⟨b, off + k * 5 + 4, none⟩ = some (.int .i64 (P.Tot k))
theorem PmAt.below {w w' : World} {B b off n : Nat} {P : Pms} (h : PmAt w b off n P) (hb : Below B w w') (hB : b < B) : PmAt w' b off n P :=
  ⟨Nat.lt_of_lt_of_le h.1 hb.size, fun k hk => by
    obtain ⟨h0, h1, h2, h3, h4⟩ := h.2 k hk
    exact ⟨(hb.cell (p := ⟨b, _, none⟩) hB).trans h0, (hb.cell (p := ⟨b, _, none⟩) hB).trans h1, (hb.cell (p := ⟨b, _, none⟩) hB).trans h2, (hb.cell (p := ⟨b, _, none⟩) hB).trans h3, (hb.cell (p := ⟨b, _, none⟩) hB).trans h4⟩⟩
def PmIn (w : World) (A : Option Addr) (n : Nat) (P : Pms) : Prop := n ≤ 9223372036854775807 ∧ (n = 0 ∨ ∃ b off, A = some ⟨b, off, none⟩ ∧ PmAt w b off n P)
theorem PmIn.below {w w' : World} {B n : Nat} {A : Option Addr} {P : Pms} (h : PmIn w A n P) (hB : w.heap.size ≤ B) (hb : Below B w w') : PmIn w' A n P := by
  refine ⟨h.1, ?_⟩
  rcases h.2 with h0 | ⟨b, off, hA, ht⟩
  · exact .inl h0
  · exact .inr ⟨b, off, hA, ht.below hb (Nat.lt_of_lt_of_le ht.1 hB)⟩
theorem PmIn.at {w : World} {A : Option Addr} {n k : Nat} {P : Pms} (h : PmIn w A n P) (hk : k < n) : ∃ b off, A = some ⟨b, off, none⟩ ∧ b < w.heap.size ∧ w.cell? ⟨b, off + k * 5, none⟩ = some (.string (P.Nm k)) ∧ w.cell? ⟨b, off + k * 5 + 1, none⟩ = some (.string (P.Nd k)) ∧ w.cell? ⟨b, off + k * 5 + 2, none⟩ = some (.int .i64 (P.Ev k)) ∧ w.cell? ⟨b, off + k * 5 + 3, none⟩ = some (.int .i64 (P.Vol k)) ∧ w.cell? ⟨b, off + k * 5 + 4, none⟩ = some (.int .i64 (P.Tot k)) := by
  rcases h.2 with h0 | ⟨b, off, hA, ht⟩
  · omega
  · exact ⟨b, off, hA, ht.1, ht.2 k hk⟩

structure Evl where
  A : Nat → Option Addr
  N : Nat → Nat
  C : Nat → Nat
  E : Nat → Evs
def ElAt (w : World) (b off n : Nat) (L : Evl) : Prop := b < w.heap.size ∧ ∀ k, k < n → w.cell? ⟨b, off + k, none⟩ = some (.slice (L.A k) (L.N k) (L.C k)) ∧ EvIn w (L.A k) (L.N k) (L.E k) ∧ L.N k ≤ L.C k
def ElIn (w : World) (A : Option Addr) (n : Nat) (L : Evl) : Prop := n ≤ 9223372036854775807 ∧ (n = 0 ∨ ∃ b off, A = some ⟨b, off, none⟩ ∧ ElAt w b off n L)
theorem ElIn.below {w w' : World} {B n : Nat} {A : Option Addr} {L : Evl} (h : ElIn w A n L) (hB : w.heap.size ≤ B) (hb : Below B w w') : ElIn w' A n L := by
  refine ⟨h.1, ?_⟩
  rcases h.2 with h0 | ⟨b, off, hA, ht⟩
  · exact .inl h0
  · refine .inr ⟨b, off, hA, Nat.lt_of_lt_of_le ht.1 hb.size, fun k hk => ?_⟩
    obtain ⟨h1, h2, h3⟩ := ht.2 k hk
    exact ⟨(hb.cell (p := ⟨b, _, none⟩) (Nat.lt_of_lt_of_le ht.1 hB)).trans h1, h2.below hB hb, h3⟩
theorem ElIn.at {w : World} {A : Option Addr} {n k : Nat} {L : Evl} (h : ElIn w A n L) (hk : k < n) : ∃ b off, A = some ⟨b, off, none⟩ ∧ b < w.heap.size ∧ w.cell? ⟨b, off + k, none⟩ = some (.slice (L.A k) (L.N k) (L.C k)) ∧ EvIn w (L.A k) (L.N k) (L.E k) ∧ L.N k ≤ L.C k := by
  rcases h.2 with h0 | ⟨b, off, hA, ht⟩
  · omega
  · exact ⟨b, off, hA, ht.1, ht.2 k hk⟩

def bs (l : List UInt8) : ByteArray := ⟨l.toArray⟩
def wEv : ByteArray := ⟨#[101, 118, 101, 110, 116, 115, 32, 105, 110]⟩
def wSp : ByteArray := ⟨#[115, 112, 105, 108, 108]⟩
def wVo : ByteArray := ⟨#[118, 111, 108, 117, 109, 101, 32, 105, 110]⟩
def wKp : ByteArray := ⟨#[107, 101, 112, 116]⟩
def wordB (k : Int) : ByteArray := if k = 1 then wEv else if k = 2 then wSp else wVo
/-- The line of a finding, and that of a permit that is kept. -/
def fline (nm nd : ByteArray) (p : Int × Int) : ByteArray := bs (jn [nm, nd, wordB p.1, fnm p.2])
def kline (nm nd : ByteArray) : ByteArray := bs (jn [nm, nd, wKp])
theorem jn_two (a b : ByteArray) : jn [a, b] = a.data.toList ++ 32 :: b.data.toList := by
  have := jn_snoc (R := [a]) (by simp) b
  rw [jn_one] at this
  exact this
theorem jn_three (a b c : ByteArray) : jn [a, b, c] = a.data.toList ++ 32 :: (b.data.toList ++ 32 :: c.data.toList) := by
  have := jn_snoc (R := [a, b]) (by simp) c
  rw [jn_two] at this
  simpa using this
theorem jn_four (a b c d : ByteArray) : jn [a, b, c, d] = a.data.toList ++ 32 :: (b.data.toList ++ 32 :: (c.data.toList ++ 32 :: d.data.toList)) := by
  have := jn_snoc (R := [a, b, c]) (by simp) d
  rw [jn_three] at this
  simpa using this
section
variable (P : Pms) (L : Evl) (from_ sec : Int)
def pok (k : Nat) : Bool := validB (P.Nm k) (P.Nd k) (P.Ev k) (P.Vol k) (P.Tot k)
noncomputable def perr (k : Nat) : Int := yErr (pok P k = true) (L.E k) (L.N k) from_ sec
noncomputable def pfnd (k : Nat) : List (Int × Int) := chkL (pok P k = true) (L.E k) (L.N k) from_ sec (P.Ev k) (P.Vol k) (P.Tot k)
noncomputable def plin (k : Nat) : List ByteArray := if pfnd P L from_ sec k = [] then [kline (P.Nm k) (P.Nd k)] else (pfnd P L from_ sec k).map (fline (P.Nm k) (P.Nd k))
noncomputable def pout : Nat → List ByteArray
  | 0 => []
  | k + 1 => pout k ++ plin P L from_ sec k
/-- What a report on permits answers: its lines, and its error. -/
def RepIs (n m : Nat) (R : List ByteArray) (er : Int) : Prop :=
  (m ≠ n ∧ R = [] ∧ er = 3) ∨ (m = n ∧ 1000 < n ∧ R = [] ∧ er = 4) ∨ (m = n ∧ n ≤ 1000 ∧ ((∃ k, k < n ∧ (∀ j, j < k → perr P L from_ sec j = 0) ∧ perr P L from_ sec k ≠ 0 ∧ R = [] ∧ er = perr P L from_ sec k) ∨ ((∀ j, j < n → perr P L from_ sec j = 0) ∧ R = pout P L from_ sec n ∧ er = 0)))
end
theorem RepIs.uniq {P : Pms} {L : Evl} {from_ sec : Int} {n m : Nat} {R R' : List ByteArray} {er er' : Int} (h : RepIs P L from_ sec n m R er) (h' : RepIs P L from_ sec n m R' er') : R = R' ∧ er = er' := by
  rcases h with ⟨a1, a2, a3⟩ | ⟨a0, a1, a2, a3⟩ | ⟨a0, a1, ⟨k, b1, b2, b3, b4, b5⟩ | ⟨b1, b2, b3⟩⟩ <;> rcases h' with ⟨c1, c2, c3⟩ | ⟨c0, c1, c2, c3⟩ | ⟨c0, c1, ⟨k', d1, d2, d3, d4, d5⟩ | ⟨d1, d2, d3⟩⟩ <;> first | omega | skip
  · exact ⟨by rw [a2, c2], by rw [a3, c3]⟩
  · exact ⟨by rw [a2, c2], by rw [a3, c3]⟩
  · have : k = k' := by
      rcases Nat.lt_trichotomy k k' with h | h | h
      · exact absurd (d2 k h) b3
      · exact h
      · exact absurd (b2 k' h) d3
    subst this
    exact ⟨by rw [b4, d4], by rw [b5, d5]⟩
  · exact absurd (d1 k b1) b3
  · exact absurd (b1 k' d1) d3
  · exact ⟨by rw [b2, d2], by rw [b3, d3]⟩
end Go.Proofs.YtfldmnikdejekaaGreatDoor

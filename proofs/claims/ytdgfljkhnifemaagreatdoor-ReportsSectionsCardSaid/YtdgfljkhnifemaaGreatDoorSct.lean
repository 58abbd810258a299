/- Sections of a catalogue, spans, and courses: how they lie in memory; what Section of package reports says. Plain. -/
import Derived.Test.YtdgfljkhnifemaaGreatDoorNetQ
import Derived.Test.YtdgfljkhnifemaaGreatDoorNetF
import Derived.Test.YtdgfljkhnifemaaGreatDoorMgA
import Derived.Test.YtdgfljkhnifemaaGreatDoorMgD
namespace Go.Proofs.YtdgfljkhnifemaaGreatDoor
open Go.RowKit
set_option linter.unusedVariables false
set_option linter.unusedSimpArgs false

structure Scs where
  Nm : Nat → ByteArray
  Ht : Nat → Int
  Pr : Nat → Int
  AA : Nat → Option Addr
  AN : Nat → Nat
  AC : Nat → Nat
  AX : Nat → Nat → Int
  AY : Nat → Nat → Int
  BA : Nat → Option Addr
  BN : Nat → Nat
  BC : Nat → Nat
  BX : Nat → Nat → Int
  BY : Nat → Nat → Int
def Scs.vals (C : Scs) (k : Nat) : List Value := [.string (C.Nm k), .int .i64 (C.Ht k), .int .i64 (C.Pr k), .slice (C.AA k) (C.AN k) (C.AC k), .slice (C.BA k) (C.BN k) (C.BC k)]
def ScAt (w : World) (b off n : Nat) (C : Scs) : Prop := b < w.heap.size ∧ ∀ k, k < n → CellsAt w b (off + k * 5) (C.vals k) ∧ TabIn w (C.AA k) (C.AN k) (C.AX k) (C.AY k) ∧ TabIn w (C.BA k) (C.BN k) (C.BX k) (C.BY k)
def ScIn (w : World) (A : Option Addr) (n : Nat) (C : Scs) : Prop := n ≤ 9223372036854775807 ∧ (n = 0 ∨ ∃ b off, A = some ⟨b, off, none⟩ ∧ ScAt w b off n C)
theorem ScIn.below {w w' : World} {B n : Nat} {A : Option Addr} {C : Scs} (h : ScIn w A n C) (hB : w.heap.size ≤ B) (hb : Below B w w') : ScIn w' A n C := by
  refine ⟨h.1, ?_⟩
  rcases h.2 with h0 | ⟨b, off, hA, ht⟩
  · exact .inl h0
  · exact .inr ⟨b, off, hA, Nat.lt_of_lt_of_le ht.1 hb.size, fun k hk => ⟨(ht.2 k hk).1.below hb (Nat.lt_of_lt_of_le ht.1 hB), (ht.2 k hk).2.1.below hB hb, (ht.2 k hk).2.2.below hB hb⟩⟩
theorem ScIn.at {w : World} {A : Option Addr} {n k : Nat} {C : Scs} (h : ScIn w A n C) (hk : k < n) : ∃ b off, A = some ⟨b, off, none⟩ ∧ b < w.heap.size ∧ CellsAt w b (off + k * 5) (C.vals k) ∧ (TabIn w (C.AA k) (C.AN k) (C.AX k) (C.AY k) ∧ TabIn w (C.BA k) (C.BN k) (C.BX k) (C.BY k)) := by
  rcases h.2 with h0 | ⟨b, off, hA, ht⟩
  · omega
  · exact ⟨b, off, hA, ht.1, ht.2 k hk⟩
/-- A section is valid; a catalogue is. -/
def secP (C : Scs) (k : Nat) : Prop := SecOK (C.Nm k).data.toList (C.Ht k) (C.Pr k) (C.AN k) (C.AX k) (C.AY k) (C.BN k) (C.BX k) (C.BY k)
def scnP (C : Scs) (k : Nat) : Prop := secP C k ∧ ∀ j, j < k → C.Nm j ≠ C.Nm k
def catP (C : Scs) (c : Nat) : Prop := c ≤ 40 ∧ ∀ k, k < c → scnP C k
/-- A name is found where it stands first. -/
theorem fnd_self {X : Nat → ByteArray} {n i : Nat} (hi : i < n) : fnd X n (X i) = (i : Int) ↔ ∀ j, j < i → X j ≠ X i := by
  constructor
  · intro h j hj e
    obtain ⟨k, hk, hv⟩ := fnd_spec X n (X i)
    have hki : k < n := by
      rcases Nat.lt_or_ge k n with g | g
      · exact g
      · have := hk.2.1 i (by omega)
        simp at this
    rw [if_pos hki] at hv
    have hik : i = k := by have := h.symm.trans hv; omega
    have hjk := hk.2.1 j (by omega)
    have : decide (X j = X i) = false := hjk
    rw [decide_eq_true e] at this
    cases this
  · intro h
    refine (fnd_at (k := i) ⟨by omega, fun j hj => decide_eq_false (h j hj), fun _ => decide_eq_true rfl⟩).trans ?_
    rw [if_pos hi]
/-- The first index at which a test holds; -1 if there is none. -/
def FstV (p : Nat → Bool) (n : Nat) (v : Int) : Prop := ∃ k, FirstAt p n k ∧ v = if k < n then (k : Int) else -1
theorem FstV.ex (p : Nat → Bool) (n : Nat) : ∃ v, FstV p n v := by
  obtain ⟨k, hk⟩ := first_ex p n
  exact ⟨_, k, hk, rfl⟩
theorem FstV.uniq {p : Nat → Bool} {n : Nat} {v v' : Int} (h : FstV p n v) (h' : FstV p n v') : v = v' := by
  obtain ⟨k, hk, e⟩ := h
  obtain ⟨k', hk', e'⟩ := h'
  rw [e, e', first_uniq hk hk']
noncomputable def fst1 (p : Nat → Bool) (n : Nat) : Int := (FstV.ex p n).choose
theorem fst1_spec (p : Nat → Bool) (n : Nat) : FstV p n (fst1 p n) := (FstV.ex p n).choose_spec
theorem fst1_bd (p : Nat → Bool) (n : Nat) : (fst1 p n = -1) ∨ ∃ k : Nat, k < n ∧ fst1 p n = (k : Int) ∧ p k = true := by
  obtain ⟨k, hk, e⟩ := fst1_spec p n
  by_cases h : k < n
  · rw [if_pos h] at e
    exact .inr ⟨k, h, e, hk.2.2 h⟩
  · rw [if_neg h] at e
    exact .inl e
/-- The first link from a node to another one. -/
def btwP (K : Lks) (a b : ByteArray) (j : Nat) : Bool := decide (K.Fr j = a ∧ K.To j = b)
noncomputable def btw (K : Lks) (m : Nat) (a b : ByteArray) : Int := fst1 (btwP K a b) m
/-- A span is valid. -/
def spP (lo hi : Int) : Prop := lo ≤ hi ∧ -72057594037927936 ≤ lo ∧ hi ≤ 72057594037927936
/-- The network, and the spans, are valid. -/
def vlP (D : Nds) (n : Nat) (K : Lks) (m q : Nat) (Lo Hi : Nat → Int) : Prop := netP D n K m ∧ ∀ j, j < q → spP (Lo j) (Hi j)
open Classical in
/-- The error of a course. -/
noncomputable def crsE (D : Nds) (n : Nat) (K : Lks) (m : Nat) (N : Nat → ByteArray) (p q : Nat) : Int :=
  if q ≠ n then 3 else if p = 0 then 14 else if 300 < p then 4 else if (∃ i, i < p ∧ fnd D.Nm n (N i) = -1) then 9 else if (∃ i, i + 1 < p ∧ btw K m (N i) (N (i + 1)) = -1) then 24 else 0
section
variable {D : Nds} {n : Nat} {K : Lks} {m : Nat} {N : Nat → ByteArray} {p q : Nat}
theorem crsE_size (h : q ≠ n) : crsE D n K m N p q = 3 := if_pos h
theorem crsE_empty (h : q = n) (h2 : p = 0) : crsE D n K m N p q = 14 := by unfold crsE; rw [if_neg (fun g => g h), if_pos h2]
theorem crsE_full (h : q = n) (h3 : 300 < p) : crsE D n K m N p q = 4 := by unfold crsE; rw [if_neg (fun g => g h), if_neg (by omega), if_pos h3]
theorem crsE_name (h : q = n) (h2 : 1 ≤ p) (h3 : p ≤ 300) (h4 : ∃ i, i < p ∧ fnd D.Nm n (N i) = -1) : crsE D n K m N p q = 9 := by unfold crsE; rw [if_neg (fun g => g h), if_neg (by omega), if_neg (by omega), if_pos h4]
theorem crsE_gap (h : q = n) (h2 : 1 ≤ p) (h3 : p ≤ 300) (h4 : ∀ i, i < p → fnd D.Nm n (N i) ≠ -1) (h5 : ∃ i, i + 1 < p ∧ btw K m (N i) (N (i + 1)) = -1) : crsE D n K m N p q = 24 := by unfold crsE; rw [if_neg (fun g => g h), if_neg (by omega), if_neg (by omega), if_neg (fun ⟨i, hi, e⟩ => h4 i hi e), if_pos h5]
theorem crsE_ok (h : q = n) (h2 : 1 ≤ p) (h3 : p ≤ 300) (h4 : ∀ i, i < p → fnd D.Nm n (N i) ≠ -1) (h5 : ∀ i, i + 1 < p → btw K m (N i) (N (i + 1)) ≠ -1) : crsE D n K m N p q = 0 := by unfold crsE; rw [if_neg (fun g => g h), if_neg (by omega), if_neg (by omega), if_neg (fun ⟨i, hi, e⟩ => h4 i hi e), if_neg (fun ⟨i, hi, e⟩ => h5 i hi e)]
theorem crsE_zero (h : crsE D n K m N p q = 0) : q = n ∧ 1 ≤ p ∧ p ≤ 300 ∧ (∀ i, i < p → fnd D.Nm n (N i) ≠ -1) ∧ ∀ i, i + 1 < p → btw K m (N i) (N (i + 1)) ≠ -1 := by
  by_cases h1 : q = n
  case neg => rw [crsE_size h1] at h; omega
  by_cases h2 : p = 0
  case pos => rw [crsE_empty h1 h2] at h; omega
  by_cases h3 : 300 < p
  case pos => rw [crsE_full h1 h3] at h; omega
  by_cases h4 : ∃ i, i < p ∧ fnd D.Nm n (N i) = -1
  case pos => rw [crsE_name h1 (by omega) (by omega) h4] at h; omega
  have h4' : ∀ i, i < p → fnd D.Nm n (N i) ≠ -1 := fun i hi e => h4 ⟨i, hi, e⟩
  by_cases h5 : ∃ i, i + 1 < p ∧ btw K m (N i) (N (i + 1)) = -1
  case pos => rw [crsE_gap h1 (by omega) (by omega) h4' h5] at h; omega
  exact ⟨h1, by omega, by omega, h4', fun i hi e => h5 ⟨i, hi, e⟩⟩
end
/-- The nodes and the links of a course. -/
noncomputable def ndI (D : Nds) (n : Nat) (N : Nat → ByteArray) (i : Nat) : Nat := (fnd D.Nm n (N i)).toNat
noncomputable def lkI (K : Lks) (m : Nat) (N : Nat → ByteArray) (i : Nat) : Nat := (btw K m (N i) (N (i + 1))).toNat
theorem ndI_at {D : Nds} {n : Nat} {N : Nat → ByteArray} {i : Nat} (h : fnd D.Nm n (N i) ≠ -1) : ndI D n N i < n ∧ fnd D.Nm n (N i) = (ndI D n N i : Int) ∧ D.Nm (ndI D n N i) = N i := by
  rcases fnd_bd D.Nm n (N i) with g | ⟨k, hk, e, hx⟩
  · exact absurd g h
  · have : ndI D n N i = k := by unfold ndI; rw [e]; rfl
    rw [this]; exact ⟨hk, e, hx⟩
theorem lkI_at {K : Lks} {m : Nat} {N : Nat → ByteArray} {i : Nat} (h : btw K m (N i) (N (i + 1)) ≠ -1) : lkI K m N i < m ∧ btw K m (N i) (N (i + 1)) = (lkI K m N i : Int) ∧ K.Fr (lkI K m N i) = N i ∧ K.To (lkI K m N i) = N (i + 1) := by
  rcases fst1_bd (btwP K (N i) (N (i + 1))) m with g | ⟨k, hk, e, hx⟩
  · exact absurd g h
  · have : lkI K m N i = k := by unfold lkI btw; rw [e]; rfl
    rw [this]
    exact ⟨hk, e, of_decide_eq_true hx⟩
def wGr : ByteArray := ⟨#[103, 114, 111, 117, 110, 100]⟩
def wIv : ByteArray := ⟨#[105, 110, 118, 101, 114, 116]⟩
def wTo : ByteArray := ⟨#[116, 111]⟩
def wLen : ByteArray := ⟨#[108, 101, 110, 103, 116, 104]⟩
def wFal : ByteArray := ⟨#[102, 97, 108, 108]⟩
def wHei : ByteArray := ⟨#[104, 101, 105, 103, 104, 116]⟩
def wWeir : ByteArray := ⟨#[119, 101, 105, 114]⟩
def wGate : ByteArray := ⟨#[103, 97, 116, 101]⟩
def wPump : ByteArray := ⟨#[112, 117, 109, 112]⟩
/-- The line of a node, of a pipe, of another link. -/
def nlin (D : Nds) (Lo Hi : Nat → Int) (k : Nat) : ByteArray := bsx (jn [D.Nm k, wGr, numB (D.Gd k), wIv, numB (D.Iv k), wLv, numB (Lo k), wTo, numB (Hi k)])
def plin (K : Lks) (C : Scs) (k s : Nat) : ByteArray := bsx (jn [K.Nm k, wLen, numB (K.Ln k), wFal, numB (K.Up k - K.Dn k), wHei, numB (C.Ht s)])
def kwd (kd : Int) : ByteArray := if kd = 2 then wWeir else if kd = 3 then wGate else wPump
noncomputable def klin (K : Lks) (C : Scs) (c : Nat) (k : Nat) : ByteArray := if K.Kd k = 1 then plin K C k (fnd C.Nm c (K.Sc k)).toNat else bsx (jn [K.Nm k, kwd (K.Kd k)])
/-- The section of a link is not in the catalogue. -/
def noS (K : Lks) (m : Nat) (C : Scs) (c : Nat) (N : Nat → ByteArray) (i : Nat) : Prop := K.Kd (lkI K m N i) = 1 ∧ fnd C.Nm c (K.Sc (lkI K m N i)) = -1
/-- The lines of the first nodes, each with the link behind it. -/
noncomputable def sgo (D : Nds) (n : Nat) (K : Lks) (m : Nat) (C : Scs) (c : Nat) (N : Nat → ByteArray) (Lo Hi : Nat → Int) : Nat → List ByteArray
  | 0 => []
  | i + 1 => sgo D n K m C c N Lo Hi i ++ [nlin D Lo Hi (ndI D n N i), klin K C c (lkI K m N i)]
theorem sgo_len (D : Nds) (n : Nat) (K : Lks) (m : Nat) (C : Scs) (c : Nat) (N : Nat → ByteArray) (Lo Hi : Nat → Int) : ∀ i, (sgo D n K m C c N Lo Hi i).length = 2 * i
  | 0 => rfl
  | i + 1 => by
    show (sgo D n K m C c N Lo Hi i ++ _).length = _
    rw [List.length_append, sgo_len D n K m C c N Lo Hi i]
    simp
    omega
noncomputable def sall (D : Nds) (n : Nat) (K : Lks) (m : Nat) (C : Scs) (c : Nat) (N : Nat → ByteArray) (Lo Hi : Nat → Int) (p : Nat) : List ByteArray := sgo D n K m C c N Lo Hi (p - 1) ++ [nlin D Lo Hi (ndI D n N (p - 1))]
/-- What Section says: lines, and an error. -/
inductive SecIs (D : Nds) (n : Nat) (K : Lks) (m : Nat) (C : Scs) (c : Nat) (N : Nat → ByteArray) (p q : Nat) (Lo Hi : Nat → Int) : List ByteArray → Int → Prop
  | arg : ¬ (vlP D n K m q Lo Hi ∧ catP C c) → SecIs D n K m C c N p q Lo Hi [] 1
  | crs : vlP D n K m q Lo Hi → catP C c → crsE D n K m N p q ≠ 0 → SecIs D n K m C c N p q Lo Hi [] (crsE D n K m N p q)
  | none : vlP D n K m q Lo Hi → catP C c → crsE D n K m N p q = 0 → (∃ i, i + 1 < p ∧ noS K m C c N i) → SecIs D n K m C c N p q Lo Hi [] 12
  | ok : vlP D n K m q Lo Hi → catP C c → crsE D n K m N p q = 0 → (∀ i, i + 1 < p → ¬ noS K m C c N i) → SecIs D n K m C c N p q Lo Hi (sall D n K m C c N Lo Hi p) 0
theorem SecIs.uniq {D : Nds} {n : Nat} {K : Lks} {m : Nat} {C : Scs} {c : Nat} {N : Nat → ByteArray} {p q : Nat} {Lo Hi : Nat → Int} {R R' : List ByteArray} {e e' : Int} (h : SecIs D n K m C c N p q Lo Hi R e) (h' : SecIs D n K m C c N p q Lo Hi R' e') : R = R' ∧ e = e' := by
  cases h with
  | arg h1 =>
    cases h' with
    | arg _ => exact ⟨rfl, rfl⟩
    | crs a b _ => exact absurd ⟨a, b⟩ h1
    | none a b _ _ => exact absurd ⟨a, b⟩ h1
    | ok a b _ _ => exact absurd ⟨a, b⟩ h1
  | crs a b d =>
    cases h' with
    | arg h1 => exact absurd ⟨a, b⟩ h1
    | crs _ _ _ => exact ⟨rfl, rfl⟩
    | none _ _ c2 _ => exact absurd c2 d
    | ok _ _ c2 _ => exact absurd c2 d
  | none a b c1 d =>
    cases h' with
    | arg h1 => exact absurd ⟨a, b⟩ h1
    | crs _ _ d2 => exact absurd c1 d2
    | none _ _ _ _ => exact ⟨rfl, rfl⟩
    | ok _ _ _ d2 =>
      obtain ⟨i, hi, hn⟩ := d
      exact absurd hn (d2 i hi)
  | ok a b c1 d =>
    cases h' with
    | arg h1 => exact absurd ⟨a, b⟩ h1
    | crs _ _ d2 => exact absurd c1 d2
    | none _ _ _ d2 =>
      obtain ⟨i, hi, hn⟩ := d2
      exact absurd hn (d i hi)
    | ok _ _ _ _ => exact ⟨rfl, rfl⟩
/-- Where a level lies in a plot. -/
def rowZ (top bot h z : Int) : Int := if top ≤ z then 0 else if z < bot then h - 1 else (top - z) * (h - 1) / (top - bot)
theorem rowZ_bd {top bot h z : Int} (hh : 1 ≤ h) : 0 ≤ rowZ top bot h z ∧ rowZ top bot h z ≤ h - 1 := by
  unfold rowZ
  by_cases h1 : top ≤ z
  · rw [if_pos h1]; omega
  rw [if_neg h1]
  by_cases h2 : z < bot
  · rw [if_pos h2]; omega
  rw [if_neg h2]
  have hp : 0 < top - bot := by omega
  refine ⟨Int.ediv_nonneg (Int.mul_nonneg (by omega) (by omega)) (by omega), ?_⟩
  have h3 : (top - z) * (h - 1) ≤ (top - bot) * (h - 1) := Int.mul_le_mul_of_nonneg_right (by omega) (by omega)
  have h4 := Int.ediv_le_ediv hp h3
  rw [Int.mul_ediv_cancel_left _ (by omega)] at h4
  exact h4
/-- The byte of a plot. -/
def chr (top bot h gd iv hi : Int) (r : Int) : UInt8 := if r = rowZ top bot h iv then 95 else if r = rowZ top bot h gd then 61 else if iv < hi ∧ rowZ top bot h hi ≤ r ∧ r ≤ rowZ top bot h iv then 126 else 32
/-- The highest ground, and the lowest invert, of the first nodes of a course. -/
def topF (f : Nat → Int) : Nat → Int
  | 0 => f 0
  | i + 1 => max (topF f i) (f i)
def botF (f : Nat → Int) : Nat → Int
  | 0 => f 0
  | i + 1 => min (botF f i) (f i)
noncomputable def pTop (D : Nds) (n : Nat) (N : Nat → ByteArray) (p : Nat) : Int := topF (fun i => D.Gd (ndI D n N i)) p
noncomputable def pBot (D : Nds) (n : Nat) (N : Nat → ByteArray) (p : Nat) : Int := botF (fun i => D.Iv (ndI D n N i)) p
noncomputable def pch (D : Nds) (n : Nat) (N : Nat → ByteArray) (p : Nat) (Hi : Nat → Int) (wd : Nat) (h : Int) (r : Int) (i : Nat) : UInt8 :=
  chr (pTop D n N p) (pBot D n N p) h (D.Gd (ndI D n N (i * p / wd))) (D.Iv (ndI D n N (i * p / wd))) (Hi (ndI D n N (i * p / wd))) r
/-- The first bytes of a row of a plot; the first rows. -/
noncomputable def prow (D : Nds) (n : Nat) (N : Nat → ByteArray) (p : Nat) (Hi : Nat → Int) (wd : Nat) (h : Int) (r : Int) (i : Nat) : ByteArray := bsx ((List.range i).map (pch D n N p Hi wd h r))
noncomputable def prows (D : Nds) (n : Nat) (N : Nat → ByteArray) (p : Nat) (Hi : Nat → Int) (wd : Nat) (h : Int) (k : Nat) : List ByteArray := (List.range k).map fun (r : Nat) => prow D n N p Hi wd h (r : Int) wd
theorem prows_len (D : Nds) (n : Nat) (N : Nat → ByteArray) (p : Nat) (Hi : Nat → Int) (wd : Nat) (h : Int) (k : Nat) : (prows D n N p Hi wd h k).length = k := by simp [prows]
theorem prows_succ (D : Nds) (n : Nat) (N : Nat → ByteArray) (p : Nat) (Hi : Nat → Int) (wd : Nat) (h : Int) (k : Nat) : prows D n N p Hi wd h (k + 1) = prows D n N p Hi wd h k ++ [prow D n N p Hi wd h (k : Int) wd] := by
  unfold prows; rw [List.range_succ, List.map_append]; rfl
/-- What Plot says. -/
inductive PltIs (D : Nds) (n : Nat) (K : Lks) (m : Nat) (N : Nat → ByteArray) (p q : Nat) (Lo Hi : Nat → Int) (wd h : Int) : List ByteArray → Int → Prop
  | arg : ¬ vlP D n K m q Lo Hi → PltIs D n K m N p q Lo Hi wd h [] 1
  | crs : vlP D n K m q Lo Hi → crsE D n K m N p q ≠ 0 → PltIs D n K m N p q Lo Hi wd h [] (crsE D n K m N p q)
  | range : vlP D n K m q Lo Hi → crsE D n K m N p q = 0 → ¬ (1 ≤ wd ∧ wd ≤ 200 ∧ 2 ≤ h ∧ h ≤ 100) → PltIs D n K m N p q Lo Hi wd h [] 2
  | ok : vlP D n K m q Lo Hi → crsE D n K m N p q = 0 → (1 ≤ wd ∧ wd ≤ 200 ∧ 2 ≤ h ∧ h ≤ 100) → PltIs D n K m N p q Lo Hi wd h (prows D n N p Hi wd.toNat h h.toNat) 0
theorem PltIs.uniq {D : Nds} {n : Nat} {K : Lks} {m : Nat} {N : Nat → ByteArray} {p q : Nat} {Lo Hi : Nat → Int} {wd hh : Int} {R R' : List ByteArray} {e e' : Int} (h : PltIs D n K m N p q Lo Hi wd hh R e) (h' : PltIs D n K m N p q Lo Hi wd hh R' e') : R = R' ∧ e = e' := by
  cases h with
  | arg h1 =>
    cases h' with
    | arg _ => exact ⟨rfl, rfl⟩
    | crs a _ => exact absurd a h1
    | range a _ _ => exact absurd a h1
    | ok a _ _ => exact absurd a h1
  | crs a d =>
    cases h' with
    | arg h1 => exact absurd a h1
    | crs _ _ => exact ⟨rfl, rfl⟩
    | range _ c2 _ => exact absurd c2 d
    | ok _ c2 _ => exact absurd c2 d
  | range a c1 d =>
    cases h' with
    | arg h1 => exact absurd a h1
    | crs _ d2 => exact absurd c1 d2
    | range _ _ _ => exact ⟨rfl, rfl⟩
    | ok _ _ d2 => exact absurd d2 d
  | ok a c1 d =>
    cases h' with
    | arg h1 => exact absurd a h1
    | crs _ d2 => exact absurd c1 d2
    | range _ _ d2 => exact absurd d d2
    | ok _ _ _ => exact ⟨rfl, rfl⟩
end Go.Proofs.YtdgfljkhnifemaaGreatDoor

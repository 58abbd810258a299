/- Merged texts of these proofs: FmS, FmP, FmA, FmB, FmC, FmD, FmE. -/
import Derived.Test.YthbdeaglncoanaaGreatDoorSec
import Derived.Test.YthbdeaglncoanaaGreatDoorTabTwo
import Derived.Test.YthbdeaglncoanaaGreatDoorPrsP
import Derived.Test.YthbdeaglncoanaaGreatDoorEnv
import Derived.Test.YthbdeaglncoanaaGreatDoorCurve
import Derived.Test.YthbdeaglncoanaaGreatDoorPrT
import Derived.Test.YthbdeaglncoanaaGreatDoorSpw
import Derived.Maps.AppendAt
namespace Go.Proofs.YthbdeaglncoanaaGreatDoor
open Go.RowKit
set_option linter.unusedVariables false
set_option linter.unusedSimpArgs false

def CellsAt (w : World) (b o : Nat) (vs : List Value) : Prop := ∀ i v, vs[i]? = some v → w.cell? ⟨b, o + i, none⟩ = some v
theorem CellsAt.below {w w' : World} {B b o : Nat} {vs : List Value} (h : CellsAt w b o vs) (hb : Below B w w') (hB : b < B) : CellsAt w' b o vs := fun i v hi => (hb.cell (p := ⟨b, o + i, none⟩) hB).trans (h i v hi)
theorem Blk.cells {w : World} {g : Nat} {t : TypeId} {cs : Array Value} (h : Blk w g t cs) : CellsAt w g 0 cs.toList := fun i v hi => by
  rw [Nat.zero_add, h.cell i]
  simpa using hi
structure Scs where
  Nm : Nat → ByteArray
  Ht : Nat → Int
  Pr : Nat → Int
  AA : Nat → Option Addr
  AN : Nat → Nat
  AC : Nat → Nat
  AX : Nat → Nat → Int
  AY : Nat → Nat → Int
  BA : Nat → Option Addr
  BN : Nat → Nat
  BC : Nat → Nat
  BX : Nat → Nat → Int
  BY : Nat → Nat → Int
def Scs.vals (C : Scs) (k : Nat) : List Value := [.string (C.Nm k), .int .i64 (C.Ht k), .int .i64 (C.Pr k), .slice (C.AA k) (C.AN k) (C.AC k), .slice (C.BA k) (C.BN k) (C.BC k)]
def ScAt (w : World) (b off n : Nat) (C : Scs) : Prop := b < w.heap.size ∧ ∀ k, k < n → CellsAt w b (off + k * 5) (C.vals k) ∧ TabIn w (C.AA k) (C.AN k) (C.AX k) (C.AY k) ∧ TabIn w (C.BA k) (C.BN k) (C.BX k) (C.BY k)
def ScIn (w : World) (A : Option Addr) (n : Nat) (C : Scs) : Prop := n ≤ 9223372036854775807 ∧ (n = 0 ∨ ∃ b off, A = some ⟨b, off, none⟩ ∧ ScAt w b off n C)
theorem ScIn.below {w w' : World} {B n : Nat} {A : Option Addr} {C : Scs} (h : ScIn w A n C) (hB : w.heap.size ≤ B) (hb : Below B w w') : ScIn w' A n C := by
  refine ⟨h.1, ?_⟩
  rcases h.2 with h0 | ⟨b, off, hA, ht⟩
  · exact .inl h0
  · exact .inr ⟨b, off, hA, Nat.lt_of_lt_of_le ht.1 hb.size, fun k hk => ⟨(ht.2 k hk).1.below hb (Nat.lt_of_lt_of_le ht.1 hB), (ht.2 k hk).2.1.below hB hb, (ht.2 k hk).2.2.below hB hb⟩⟩
theorem ScIn.at {w : World} {A : Option Addr} {n k : Nat} {C : Scs} (h : ScIn w A n C) (hk : k < n) : ∃ b off, A = some ⟨b, off, none⟩ ∧ b < w.heap.size ∧ CellsAt w b (off + k * 5) (C.vals k) ∧ (TabIn w (C.AA k) (C.AN k) (C.AX k) (C.AY k) ∧ TabIn w (C.BA k) (C.BN k) (C.BX k) (C.BY k)) := by
  rcases h.2 with h0 | ⟨b, off, hA, ht⟩
  · omega
  · exact ⟨b, off, hA, ht.1, ht.2 k hk⟩
def secP (C : Scs) (k : Nat) : Prop := SecOK (C.Nm k).data.toList (C.Ht k) (C.Pr k) (C.AN k) (C.AX k) (C.AY k) (C.BN k) (C.BX k) (C.BY k)
def scnP (C : Scs) (k : Nat) : Prop := secP C k ∧ ∀ j, j < k → C.Nm j ≠ C.Nm k
def catP (C : Scs) (c : Nat) : Prop := c ≤ 40 ∧ ∀ k, k < c → scnP C k
theorem blk2 {w : World} {g : Nat} {t : TypeId} {a b : Value} (h : Blk w g t #[a, b]) : w.cell? ⟨g, 0, none⟩ = some a ∧ w.cell? ⟨g, 1, none⟩ = some b := ⟨h.cell 0, h.cell 1⟩
theorem blk5 {w : World} {g : Nat} {t : TypeId} {a b c d e : Value} (h : Blk w g t #[a, b, c, d, e]) : w.cell? ⟨g, 0, none⟩ = some a ∧ w.cell? ⟨g, 1, none⟩ = some b ∧ w.cell? ⟨g, 2, none⟩ = some c ∧ w.cell? ⟨g, 3, none⟩ = some d ∧ w.cell? ⟨g, 4, none⟩ = some e := ⟨h.cell 0, h.cell 1, h.cell 2, h.cell 3, h.cell 4⟩
end Go.Proofs.YthbdeaglncoanaaGreatDoor

namespace Go.Proofs.YthbdeaglncoanaaGreatDoor
open Go
set_option linter.unusedVariables false
set_option linter.unusedSimpArgs false

theorem nb_wlen {l : List UInt8} (h : wlen l = l.length) : ∀ c, c ∈ l → wchB (c.toNat : Int) = true := by
  unfold wlen at h
  intro c hc
  have e : l.takeWhile (fun c => wchB (c.toNat : Int)) = l := (List.takeWhile_prefix _).eq_of_length h
  have ha := List.all_takeWhile (p := fun c : UInt8 => wchB (c.toNat : Int)) (l := l)
  rw [e] at ha
  exact List.all_eq_true.1 ha c hc
theorem nb_bytes {l : List UInt8} (h : nameB l = true) : (32 : UInt8) ∉ l ∧ (10 : UInt8) ∉ l ∧ 0 < l.length ∧ l.length ≤ 20 := by
  unfold nameB at h
  simp only [Bool.and_eq_true, decide_eq_true_eq] at h
  obtain ⟨⟨⟨h1, h2⟩, _⟩, h4⟩ := h
  refine ⟨fun hc => ?_, fun hc => ?_, h1, h2⟩
  · have := nb_wlen h4 _ hc
    revert this; decide
  · have := nb_wlen h4 _ hc
    revert this; decide
theorem it_no10 (v : Int) : (10 : UInt8) ∉ Lib.itoa v := itoa_no (by decide) (.inl (by decide))
theorem tx_no10 (X Y : Nat → Int) : ∀ n, (10 : UInt8) ∉ txL X Y n
  | 0 => by simp [txL]
  | n + 1 => by
    have ih := tx_no10 X Y n
    have hk : (10 : UInt8) ∉ ktx (X n) (Y n) := by
      unfold ktx
      intro h
      rcases List.mem_append.1 h with h | h
      · exact it_no10 _ h
      · rcases List.mem_cons.1 h with h | h
        · revert h; decide
        · exact it_no10 _ h
    intro h
    unfold txL at h
    rcases List.mem_append.1 h with h | h
    · split at h
      · rcases List.mem_append.1 h with h | h
        · exact ih h
        · revert h; decide
      · exact ih h
    · exact hk h
/-- The words ahead of the lines. -/
def wSec : List UInt8 := [115, 101, 99, 116, 105, 111, 110]
def wAre : List UInt8 := [97, 114, 101, 97]
def wCon : List UInt8 := [99, 111, 110, 118, 101, 121, 97, 110, 99, 101]
/-- The three lines of a section. -/
def ln1 (C : Scs) (k : Nat) : List UInt8 := wSec ++ 32 :: ((C.Nm k).data.toList ++ 32 :: (Lib.itoa (C.Ht k) ++ 32 :: Lib.itoa (C.Pr k)))
def ln2 (C : Scs) (k : Nat) : List UInt8 := wAre ++ 32 :: txL (C.AX k) (C.AY k) (C.AN k)
def ln3 (C : Scs) (k : Nat) : List UInt8 := wCon ++ 32 :: txL (C.BX k) (C.BY k) (C.BN k)
def secT (C : Scs) (k : Nat) : List UInt8 := ln1 C k ++ 10 :: (ln2 C k ++ 10 :: (ln3 C k ++ [10]))
/-- The text of the first sections. -/
def catT (C : Scs) : Nat → List UInt8
  | 0 => []
  | k + 1 => catT C k ++ secT C k
/-- The text of d sections from the k-th on. -/
def rsT (C : Scs) : Nat → Nat → List UInt8
  | _, 0 => []
  | k, d + 1 => secT C k ++ rsT C (k + 1) d
theorem rsT_snoc (C : Scs) : ∀ (d k : Nat), rsT C k (d + 1) = rsT C k d ++ secT C (k + d)
  | 0, k => by simp [rsT]
  | d + 1, k => by
    show secT C k ++ rsT C (k + 1) (d + 1) = secT C k ++ rsT C (k + 1) d ++ secT C (k + (d + 1))
    rw [rsT_snoc C d (k + 1), List.append_assoc, show k + 1 + d = k + (d + 1) by omega]
theorem rsT_all (C : Scs) : ∀ n, catT C n = rsT C 0 n
  | 0 => rfl
  | n + 1 => by
    rw [rsT_snoc C n 0, Nat.zero_add, ← rsT_all C n]
    rfl
/-- What is still to be read: ahead of the first, the second, the third line of the k-th section. -/
def rst (C : Scs) (n k : Nat) : List UInt8 := rsT C k (n - k)
theorem rst_end (C : Scs) (n : Nat) : rst C n n = [] := by unfold rst; rw [Nat.sub_self]; rfl
theorem rst_at (C : Scs) {n k : Nat} (h : k < n) : rst C n k = ln1 C k ++ 10 :: (ln2 C k ++ 10 :: (ln3 C k ++ 10 :: rst C n (k + 1))) := by
  unfold rst
  obtain ⟨d, hd⟩ : ∃ d, n - k = d + 1 := ⟨n - k - 1, by omega⟩
  rw [hd, show n - (k + 1) = d by omega]
  show secT C k ++ rsT C (k + 1) d = _
  unfold secT
  simp
theorem rst_zero (C : Scs) (n : Nat) : rst C n 0 = catT C n := by rw [rsT_all]; rfl
theorem secP_n {C : Scs} {k : Nat} (h : secP C k) : (32 : UInt8) ∉ (C.Nm k).data.toList ∧ (10 : UInt8) ∉ (C.Nm k).data.toList ∧ 0 < (C.Nm k).data.toList.length ∧ (C.Nm k).data.toList.length ≤ 20 := nb_bytes h.1
theorem secP_near {C : Scs} {k : Nat} (h : secP C k) : near (C.Ht k) ∧ near (C.Pr k) := by
  obtain ⟨_, h1, h2, h3, h4, _⟩ := h
  unfold near
  omega
theorem no10_cons {l r : List UInt8} {c : UInt8} (hc : c ≠ 10) (h1 : (10 : UInt8) ∉ l) (h2 : (10 : UInt8) ∉ r) : (10 : UInt8) ∉ l ++ c :: r := fun h => by
  rcases List.mem_append.1 h with h | h
  · exact h1 h
  · rcases List.mem_cons.1 h with h | h
    · exact hc h.symm
    · exact h2 h
theorem ln1_no {C : Scs} {k : Nat} (h : secP C k) : (10 : UInt8) ∉ ln1 C k := no10_cons (by decide) (by decide) (no10_cons (by decide) (secP_n h).2.1 (no10_cons (by decide) (it_no10 _) (it_no10 _)))
theorem ln2_no (C : Scs) (k : Nat) : (10 : UInt8) ∉ ln2 C k := no10_cons (by decide) (by decide) (tx_no10 _ _ _)
theorem ln3_no (C : Scs) (k : Nat) : (10 : UInt8) ∉ ln3 C k := no10_cons (by decide) (by decide) (tx_no10 _ _ _)
theorem ln1_wds {C : Scs} {k : Nat} (h : secP C k) : wds (ln1 C k) = [wSec, (C.Nm k).data.toList, Lib.itoa (C.Ht k), Lib.itoa (C.Pr k)] := by
  unfold ln1
  rw [wds_first (by decide), wds_first (secP_n h).1, wds_first (itoa_no32 _), wds_plain (itoa_no32 _)]
theorem cur_near {n : Nat} {X Y : Nat → Int} {h m : Int} (hc : CurveOK n X Y h m) : ∀ k, k < n → near (X k) ∧ near (Y k) := fun k hk => by
  have a := (hc.1.2.2 k hk).1
  have b := (hc.1.2.2 k hk).2.1
  unfold inB at a b
  unfold near
  omega
theorem ln_len {C : Scs} {k : Nat} (h : secP C k) : (ln1 C k).length ≤ 70 ∧ (ln2 C k).length ≤ 4100 ∧ (ln3 C k).length ≤ 4100 := by
  have hn := secP_n h
  have hq := secP_near h
  have a1 := itoa_len hq.1
  have a2 := itoa_len hq.2
  obtain ⟨_, _, _, _, _, hA, hB⟩ := h
  have b1 := tx_len (cur_near hA)
  have b2 := tx_len (cur_near hB)
  have c1 : C.AN k ≤ 100 := hA.1.2.1
  have c2 : C.BN k ≤ 100 := hB.1.2.1
  unfold ln1 ln2 ln3 wSec wAre wCon
  simp only [List.length_append, List.length_cons, List.length_nil]
  omega
theorem secT_len {C : Scs} {k : Nat} (h : secP C k) : (secT C k).length ≤ 8300 := by
  have := ln_len h
  unfold secT
  simp only [List.length_append, List.length_cons, List.length_nil]
  omega
theorem rsT_len {C : Scs} : ∀ (d k : Nat), (∀ q, q < k + d → secP C q) → (rsT C k d).length ≤ 8300 * d
  | 0, k, _ => by simp [rsT]
  | d + 1, k, h => by
    have a := secT_len (h k (by omega))
    have b := rsT_len d (k + 1) (fun q hq => h q (by omega))
    show (secT C k ++ rsT C (k + 1) d).length ≤ _
    rw [List.length_append]
    omega
theorem rst_len {C : Scs} {n k : Nat} (hk : k ≤ n) (h : ∀ q, q < n → secP C q) : (rst C n k).length ≤ 8300 * n := by
  have a := rsT_len (C := C) (n - k) k (fun q hq => h q (by omega))
  unfold rst
  have : 8300 * (n - k) ≤ 8300 * n := Nat.mul_le_mul_left _ (by omega)
  omega
end Go.Proofs.YthbdeaglncoanaaGreatDoor

namespace Go.Proofs.YthbdeaglncoanaaGreatDoor
open Go.RowKit
set_option linter.unusedVariables false
set_option linter.unusedSimpArgs false

/-- The library's variables, and that of the search. -/
def EnvM (w : World) : Prop := Env w ∧ ∃ m : Int, w.cell? ⟨2, 0, none⟩ = some (.int .i64 m)
theorem cell_lt {w : World} {p : Addr} {v : Value} (h : w.cell? p = some v) : p.block < w.heap.size := by
  unfold World.cell? at h
  by_cases q : p.block < w.heap.size
  · exact q
  · rw [Array.getElem?_eq_none (by omega)] at h
    cases h
theorem EnvM.below {w w' : World} (h : EnvM w) (hb : Below w.heap.size w w') : EnvM w' := by
  obtain ⟨h1, m, h2⟩ := h
  exact ⟨h1.below hb, m, (hb.cell (cell_lt h2)).trans h2⟩
theorem no_dots : ∀ (l : List UInt8), (46 : UInt8) ∉ l → Lib.index l [46, 46] = -1 := fun l h => by
  refine Lib.index_none fun j _ => ?_
  cases hq : Lib.occAt l [46, 46] j with
  | false => rfl
  | true =>
    exfalso
    unfold Lib.occAt at hq
    have h1 := List.isPrefixOf_iff_prefix.1 hq
    have h2 : (46 : UInt8) ∈ l.drop j := h1.subset (by simp)
    exact h (List.mem_of_mem_drop h2)
theorem tcut_dots (s : ByteArray) (hs : s.size ≤ 8388608) (h : (46 : UInt8) ∉ s.data.toList) (w : World) (hE : EnvM w) :
    Calls Tryz.prog 28 #[.string s, .string ⟨#[46, 46]⟩] w fun e w' => e = .returned (.tuple #[.string s, .string ⟨#[]⟩, .bool false]) ∧ Below w.heap.size w w' := by
  obtain ⟨_, m, hm⟩ := hE
  refine (Tryz.strings_Cut s ⟨#[46, 46]⟩ m w (by omega) hm).mono ?_
  rintro e w' ⟨he, n, rfl⟩
  obtain ⟨e1, e2, e3⟩ := Lib.cutB_miss s ⟨#[46, 46]⟩ (no_dots _ h)
  rw [e1, e2, e3] at he
  exact ⟨he, below_drewN (Below.refl _ _) _⟩
theorem p_fits (n : Int) (h : -72057594037927936 ≤ n ∧ n ≤ 72057594037927936) (w : World) : Calls Tryz.prog 113 #[.int .i64 n] w fun e w' => e = .returned (.bool true) ∧ Below w.heap.size w w' := by
  have t1 : decide (-72057594037927936 ≤ n) = true := decide_eq_true h.1
  have t2 : decide (n ≤ 72057594037927936) = true := decide_eq_true h.2
  clear h
  go_enter Tryz.func113, Tryz.ntmps113
  go_wp2_with fail
  go_ret
  exact ⟨rfl, Below.refl _ _⟩
set_option maxHeartbeats 2000000 in
theorem s_valid (n : Int) (h : -72057594037927936 ≤ n ∧ n ≤ 72057594037927936) (w : World) : Calls Tryz.prog 90 #[.agg #[.int .i64 n, .int .i64 n]] w fun e w' => e = .returned (.bool true) ∧ Below w.heap.size w w' := by
  have HX : Hid (Blk (w.alloc (Obj.cells #[.int .i64 n, .int .i64 n] 108)) w.heap.size 108 #[.int .i64 n, .int .i64 n]) := Blk.new _ _ _
  have HB : Hid (Below w.heap.size w (w.alloc (Obj.cells #[.int .i64 n, .int .i64 n] 108))) := (Below.refl _ w).alloc (Nat.le_refl _) _
  have SF := Lib.hid fun w => p_fits n h w
  have t1 : decide (n ≤ n) = true := by simp
  clear h
  go_enter Tryz.func90, Tryz.ntmps90
  go_upto_region 1 with fail
  generalize w.alloc (Obj.cells #[.int .i64 n, .int .i64 n] 108) = W at HX HB ⊢
  have e0 := HX.out.cell 0
  have e1 := HX.out.cell 1
  simp only [List.getElem?_toArray, List.getElem?_cons_zero, List.getElem?_cons_succ] at e0 e1
  go_wp2_with (first
    | (go_at_call 113
       with_reducible refine (SF.out _).mono ?_
       rintro e w4 ⟨rfl, hb4⟩
       have HX := Lib.hid (HX.out.call hb4)
       have HB := Lib.hid (below_step HB.out hb4)
       clear e0 e1 hb4
       have e0 := HX.out.cell 0
       have e1 := HX.out.cell 1
       simp only [List.getElem?_toArray, List.getElem?_cons_zero, List.getElem?_cons_succ] at e0 e1))
  go_ret
  exact ⟨rfl, HB.out⟩
set_option maxHeartbeats 2000000 in
theorem s_text (n : Int) (h : -72057594037927936 ≤ n ∧ n ≤ 72057594037927936) (w : World) (hE : Env w) : Calls Tryz.prog 91 #[.agg #[.int .i64 n, .int .i64 n]] w fun e w' => e = .returned (.string ⟨(Lib.itoa n).toArray⟩) ∧ Below w.heap.size w w' := by
  have HX : Hid (Blk (w.alloc (Obj.cells #[.int .i64 n, .int .i64 n] 108)) w.heap.size 108 #[.int .i64 n, .int .i64 n]) := Blk.new _ _ _
  have HB : Hid (Below w.heap.size w (w.alloc (Obj.cells #[.int .i64 n, .int .i64 n] 108))) := (Below.refl _ w).alloc (Nat.le_refl _) _
  have SI := Lib.hid (titoa n (by omega) (by omega) (w.alloc (Obj.cells #[.int .i64 n, .int .i64 n] 108)) (hE.below HB.out))
  have t1 : (n == n) = true := by simp
  clear h hE
  go_enter Tryz.func91, Tryz.ntmps91
  go_upto_region 1 with fail
  generalize w.alloc (Obj.cells #[.int .i64 n, .int .i64 n] 108) = W at HX HB SI ⊢
  have e0 := HX.out.cell 0
  have e1 := HX.out.cell 1
  simp only [List.getElem?_toArray, List.getElem?_cons_zero, List.getElem?_cons_succ] at e0 e1
  go_wp2_with (first
    | (go_at_call 25
       with_reducible refine SI.out.mono ?_
       rintro e w4 ⟨rfl, hb4⟩
       have HB := Lib.hid (below_step HB.out hb4)
       clear hb4))
  go_ret
  exact ⟨rfl, HB.out⟩
end Go.Proofs.YthbdeaglncoanaaGreatDoor

namespace Go.Proofs.YthbdeaglncoanaaGreatDoor
open Go.RowKit
set_option linter.unusedVariables false
set_option linter.unusedSimpArgs false

set_option maxRecDepth 100000 in
set_option maxHeartbeats 4000000 in
theorem s_parse (n : Int) (h : -72057594037927936 ≤ n ∧ n ≤ 72057594037927936) (w : World) (hE : EnvM w) : Calls Tryz.prog 69 #[.string ⟨(Lib.itoa n).toArray⟩] w fun e w' => e = .returned (.tuple #[.agg #[.int .i64 n, .int .i64 n], .int .i64 0]) ∧ Below w.heap.size w w' := by
  have hn : near n := by unfold near; omega
  have hsz : (⟨(Lib.itoa n).toArray⟩ : ByteArray).size ≤ 19 := itoa_len hn
  obtain ⟨s, hs⟩ : ∃ s : ByteArray, s = ⟨(Lib.itoa n).toArray⟩ := ⟨_, rfl⟩
  have hdots : (46 : UInt8) ∉ s.data.toList := by rw [hs]; exact itoa_no (by decide) (.inl (by decide))
  have hat : Lib.atoiAll s.data.toList = .ok n := by rw [hs]; exact atoi_itoa hn.1 hn.2
  rw [← hs] at hsz ⊢
  have HX : Hid (Blk (w.alloc (Obj.cells #[.int .i64 0, .int .i64 0] 108)) w.heap.size 108 #[.int .i64 0, .int .i64 0]) := Blk.new _ _ _
  have HB : Hid (Below w.heap.size w (w.alloc (Obj.cells #[.int .i64 0, .int .i64 0] 108))) := (Below.refl _ w).alloc (Nat.le_refl _) _
  have HE := Lib.hid hE
  have SC : Hid (∀ w', Below w.heap.size w w' → Calls Tryz.prog 28 #[.string s, .string ⟨#[46, 46]⟩] w' fun e w'' => e = .returned (.tuple #[.string s, .string ⟨#[]⟩, .bool false]) ∧ Below w'.heap.size w' w'') := fun w' hb => tcut_dots s (by omega) hdots w' (hE.below hb)
  have SA : Hid (∀ w', Calls Tryz.prog 72 #[.string s] w' fun e w'' => e = .returned (.tuple #[.int .i64 n, .nilIface]) ∧ Below w'.heap.size w' w'') := fun w' => tatoi_ok s (by omega) n hat w'
  have SV : Hid (∀ w', Calls Tryz.prog 90 #[.agg #[.int .i64 n, .int .i64 n]] w' fun e w'' => e = .returned (.bool true) ∧ Below w'.heap.size w' w'') := fun w' => s_valid n h w'
  have ST : Hid (∀ w', Below w.heap.size w w' → Calls Tryz.prog 91 #[.agg #[.int .i64 n, .int .i64 n]] w' fun e w'' => e = .returned (.string s) ∧ Below w'.heap.size w' w'') := fun w' hb => by
    rw [hs]
    exact s_text n h w' (hE.1.below hb)
  have ts : (s.toList == s.toList) = true := by simp
  have tn : ∀ w, (binOp .neq 58 .nilIface .nilIface).run Tryz.prog w = .ok (.bool false) w := fun w => by kernel_rfl
  clear hn hsz hdots hat hE hs h
  go_enter Tryz.func69, Tryz.ntmps69
  go_upto_region 1 with fail
  generalize w.alloc (Obj.cells #[.int .i64 0, .int .i64 0] 108) = W at HX HB ⊢
  go_upto_region 6 with (first
    | (go_at_call 28
       with_reducible refine (SC.out _ HB.out).mono ?_
       rintro e w4 ⟨rfl, hb4⟩
       have HX := Lib.hid (HX.out.call hb4)
       have HB := Lib.hid (below_step HB.out hb4)
       clear hb4)
    | (go_at_call 72
       with_reducible refine (SA.out _).mono ?_
       rintro e w4 ⟨rfl, hb4⟩
       have HX := Lib.hid (HX.out.call hb4)
       have HB := Lib.hid (below_step HB.out hb4)
       clear hb4))
  have hal : Below w4.heap.size w4 (w4.alloc (Obj.cells #[.int .i64 n, .int .i64 n] 108)) := (Below.refl _ _).alloc (Nat.le_refl _) _
  have HY : Hid (Blk (w4.alloc (Obj.cells #[.int .i64 n, .int .i64 n] 108)) w4.heap.size 108 #[.int .i64 n, .int .i64 n]) := Blk.new _ _ _
  have HX5 := Lib.hid (HX.out.call hal)
  have HB5 := Lib.hid (below_step HB.out hal)
  clear HX HB hal SC SA
  have HX := HX5
  have HB := HB5
  clear HX5 HB5
  go_upto_region 7 with fail
  generalize w4.alloc (Obj.cells #[.int .i64 n, .int .i64 n] 108) = w5 at HX HY HB ⊢
  generalize w4.heap.size = G at HY ⊢
  obtain ⟨y0, y1⟩ := blk2 HY.out
  go_upto_region 9 with (first
    | (go_at_call 90
       with_reducible refine (SV.out _).mono ?_
       rintro e w4 ⟨rfl, hb4⟩
       have HX := Lib.hid (HX.out.call hb4)
       have HY := Lib.hid (HY.out.call hb4)
       have HB := Lib.hid (below_step HB.out hb4)
       clear hb4 y0 y1
       obtain ⟨y0, y1⟩ := blk2 HY.out)
    | (go_at_call 91
       with_reducible refine (ST.out _ HB.out).mono ?_
       rintro e w4 ⟨rfl, hb4⟩
       have HX := Lib.hid (HX.out.call hb4)
       have HY := Lib.hid (HY.out.call hb4)
       have HB := Lib.hid (below_step HB.out hb4)
       clear hb4 y0 y1
       obtain ⟨y0, y1⟩ := blk2 HY.out))
  have f0 := HX.out.frozen 0
  have f1 := HX.out.frozen 1
  obtain ⟨x0, x1⟩ := blk2 HX.out
  have HRS := Lib.hid ((HX.out.set_ 0 (.int .i64 n)).set_ 1 (.int .i64 n))
  obtain ⟨z0, z1⟩ := blk2 HRS.out
  have HBE : Hid (Below w.heap.size w ((w4.setCell ⟨w.heap.size, 0, none⟩ (.int .i64 n)).setCell ⟨w.heap.size, 1, none⟩ (.int .i64 n))) := (HB.out.setCell (p := ⟨w.heap.size, 0, none⟩) (Nat.le_refl _) _).setCell (p := ⟨w.heap.size, 1, none⟩) (Nat.le_refl _) _
  go_wp2_with fail
  refine bodyPost_ret (v := .tuple #[.agg #[.int .i64 n, .int .i64 n], .int .i64 0]) (by simp [results, Tryz.results69, go_sem, z0, z1]) rfl ?_
  exact ⟨rfl, HBE.out⟩
set_option maxRecDepth 100000 in
set_option maxHeartbeats 4000000 in
/-- number, at a number's text. -/
theorem c_number (n : Int) (h : -72057594037927936 ≤ n ∧ n ≤ 72057594037927936) (w : World) (hE : EnvM w) : Calls Tryz.prog 51 #[.string ⟨(Lib.itoa n).toArray⟩] w fun e w' => e = .returned (.tuple #[.int .i64 n, .bool true]) ∧ Below w.heap.size w w' := by
  have SP := Lib.hid (s_parse n h w hE)
  have t1 : (n == n) = true := by simp
  obtain ⟨s, hs⟩ : ∃ s : ByteArray, s = ⟨(Lib.itoa n).toArray⟩ := ⟨_, rfl⟩
  rw [← hs] at SP ⊢
  clear h hE hs
  go_enter Tryz.func51, Tryz.ntmps51
  go_upto_region 2 with (first
    | (go_at_call 69
       with_reducible refine SP.out.mono ?_
       rintro e w4 ⟨rfl, hb4⟩
       have HB := Lib.hid hb4
       clear hb4))
  have HY : Hid (Blk (w4.alloc (Obj.cells #[.int .i64 n, .int .i64 n] 108)) w4.heap.size 108 #[.int .i64 n, .int .i64 n]) := Blk.new _ _ _
  have HB5 : Hid (Below w.heap.size w (w4.alloc (Obj.cells #[.int .i64 n, .int .i64 n] 108))) := below_step HB.out ((Below.refl _ _).alloc (Nat.le_refl _) _)
  generalize w4.alloc (Obj.cells #[.int .i64 n, .int .i64 n] 108) = w5 at HY HB5 ⊢
  generalize w4.heap.size = G at HY ⊢
  obtain ⟨y0, y1⟩ := blk2 HY.out
  go_quiet (fail)
  have HBE : Hid (Below w.heap.size w (w5.drewN nq)) := below_drewN HB5.out _
  go_wp2_with fail
  go_ret2
  exact ⟨rfl, HBE.out⟩
end Go.Proofs.YthbdeaglncoanaaGreatDoor

namespace Go.Proofs.YthbdeaglncoanaaGreatDoor
open Go.RowKit
set_option linter.unusedVariables false
set_option linter.unusedSimpArgs false

theorem ext_tail {s : ByteArray} {a b : List UInt8} (h : s.data.toList = a ++ b) : s.extract a.length s.size = ⟨b.toArray⟩ := by
  obtain ⟨⟨l⟩⟩ := s
  have hl : l = a ++ b := h
  subst hl
  have e : (⟨⟨a ++ b⟩⟩ : ByteArray).size = a.length + b.length := by
    show (a ++ b).length = _
    exact List.length_append
  rw [e]
  apply bytes_ext
  rw [ByteArray.toList_eq, ByteArray.toList_eq, ByteArray.data_extract]
  simp
set_option maxHeartbeats 2000000 in
theorem tcutpre0 (s p : ByteArray) (b : List UInt8) (hs : s.size ≤ 8388608) (h : s.data.toList = p.data.toList ++ b) (w : World) : Calls Tryz.prog 70 #[.string s, .string p] w fun e w' => e = .returned (.tuple #[.string ⟨b.toArray⟩, .bool true]) ∧ Below w.heap.size w w' := by
  have hp : Lib.hasPrefix s.data.toList p.data.toList = true := by
    unfold Lib.hasPrefix
    rw [h]
    exact List.isPrefixOf_iff_prefix.2 (List.prefix_append _ _)
  have SH := Lib.hid (Tryz.stringslite_HasPrefix s p w)
  rw [hp] at SH
  have hsz : p.size ≤ s.size := by
    have e : s.data.toList.length = s.size := rfl
    have e2 : p.data.toList.length = p.size := rfl
    rw [← e, ← e2, h, List.length_append]
    omega
  obtain ⟨r, hr⟩ : ∃ r : ByteArray, r = ⟨b.toArray⟩ := ⟨_, rfl⟩
  have he : s.extract p.size s.size = r := by rw [hr]; exact ext_tail h
  obtain ⟨k, hk⟩ : ∃ k, k = p.size := ⟨_, rfl⟩
  rw [← hr]
  have k0 : (0 : Int) ≤ (k : Int) := by omega
  have k1 : (k : Int) ≤ (s.size : Int) := by omega
  have k2 : k ≤ s.size := by omega
  have hpk : p.size = k := hk.symm
  rw [hpk] at he
  clear hp hs h hr hk hsz
  go_enter Tryz.func70, Tryz.ntmps70
  go_wp2_with (first | (go_at_call 92; (with_reducible refine SH.out.mono ?_); rintro e w' ⟨rfl, rfl⟩))
  go_ret2
  first
    | exact ⟨rfl, Below.refl _ _⟩
    | exact ⟨by simp [hpk, he], Below.refl _ _⟩
theorem tcutpre (s p : ByteArray) (b : List UInt8) (hs : s.size ≤ 8388608) (h : s.data.toList = p.data.toList ++ b) (w : World) : Calls Tryz.prog 52 #[.string s, .string p] w fun e w' => e = .returned (.tuple #[.string ⟨b.toArray⟩, .bool true]) ∧ Below w.heap.size w w' := by
  have SH := Lib.hid (tcutpre0 s p b hs h w)
  obtain ⟨r, hr⟩ : ∃ r : ByteArray, r = ⟨b.toArray⟩ := ⟨_, rfl⟩
  rw [← hr] at SH ⊢
  clear hs h hr
  go_enter Tryz.func52, Tryz.ntmps52
  go_wp2_with (first | (go_at_call 70; (with_reducible refine SH.out.mono ?_); rintro e w' ⟨rfl, hb⟩; have HB := Lib.hid hb; clear hb))
  go_ret2
  exact ⟨rfl, HB.out⟩
/-- A table that is read. -/
def TbPost (n : Nat) (X Y : Nat → Int) (w : World) (u : Value) (w' : World) : Prop := ∃ g cap : Nat, u = .slice (some ⟨g, 0, none⟩) n cap ∧ w.heap.size ≤ g ∧ TabAt w' g 0 n X Y ∧ Below w.heap.size w w'
theorem tparse_at (s : ByteArray) (hs : s.size ≤ 100000) (n : Nat) (X Y : Nat → Int) (hok : TabOK n X Y) (hx : s.data.toList = txL X Y n) (w : World) (hE : Env w) :
    Calls Tryz.prog 53 #[.string s] w fun e w' => ∃ u, e = .returned (.tuple #[u, .int .i64 0]) ∧ TbPost n X Y w u w' := by
  refine (tparse s (by omega) w hE).mono fun e w' h => ?_
  rcases h with ⟨n', X', Y', g, cap, h1, h2, rfl, h4, h5, h6⟩ | ⟨h1, _⟩
  · have hT : n' = n ∧ ∀ k, k < n → X' k = X k ∧ Y' k = Y k := by
      have e := h2.symm.trans hx
      obtain ⟨m, rfl⟩ : ∃ m, n' = m + 1 := ⟨n' - 1, by have := h1.1; omega⟩
      obtain ⟨m', rfl⟩ : ∃ m, n = m + 1 := ⟨n - 1, by have := hok.1; omega⟩
      have hi := tx_inj e (fun k hk => h1.near k hk) (fun k hk => hok.near k hk)
      obtain ⟨e1, e2⟩ := hi
      have e3 : m + 1 = m' + 1 := by omega
      exact ⟨e3, fun k hk => e2 k (by omega)⟩
    obtain ⟨rfl, hk⟩ := hT
    exact ⟨_, rfl, g, cap, rfl, h4, ⟨h5.1, fun k h => by rw [← (hk k h).1, ← (hk k h).2]; exact h5.2 k h⟩, h6⟩
  · exact absurd hx (h1 n X Y hok)
set_option maxHeartbeats 2000000 in
theorem c_curve (t wd : ByteArray) (n : Nat) (X Y : Nat → Int) (hs : t.size ≤ 100000) (hw : wd.size ≤ 100) (hok : TabOK n X Y) (h : t.data.toList = wd.data.toList ++ 32 :: txL X Y n) (w : World) (hE : EnvM w) :
    Calls Tryz.prog 30 #[.string t, .string wd] w fun e w' => ∃ u, e = .returned (.tuple #[u, .bool true]) ∧ TbPost n X Y w u w' := by
  obtain ⟨p, hp⟩ : ∃ p : ByteArray, wd ++ ⟨#[32]⟩ = p := ⟨_, rfl⟩
  obtain ⟨r, hr⟩ : ∃ r : ByteArray, r = ⟨(txL X Y n).toArray⟩ := ⟨_, rfl⟩
  have hpd : p.data.toList = wd.data.toList ++ [32] := by rw [← hp]; simp
  have hrz : r.size ≤ 100000 := by
    have e1 : t.data.toList.length = t.size := rfl
    have e2 : r.size = (txL X Y n).length := by rw [hr]; rfl
    rw [h, List.length_append, List.length_cons] at e1
    omega
  have SC := Lib.hid (tcutpre t p (txL X Y n) (by omega) (by rw [hpd, h]; simp) w)
  rw [← hr] at SC
  have HE := Lib.hid hE
  have SP : Hid (∀ w', Below w.heap.size w w' → Calls Tryz.prog 53 #[.string r] w' fun e w'' => ∃ u, e = .returned (.tuple #[u, .int .i64 0]) ∧ TbPost n X Y w' u w'') := fun w' hb => tparse_at r hrz n X Y hok (by rw [hr]) w' (hE.1.below hb)
  have z1 : (wd.size : Int) ≤ 8388608 := by omega
  have z2 : ((⟨#[32]⟩ : ByteArray).size : Int) ≤ 8388608 := by decide
  clear hr hpd hrz hs hw hok h hE
  go_enter Tryz.func30, Tryz.ntmps30
  go_wp2_with (first
    | (go_at_call 52
       (try rw [hp])
       with_reducible refine SC.out.mono ?_
       rintro e w4 ⟨rfl, hb4⟩
       have HB := Lib.hid hb4
       clear hb4)
    | (go_at_call 53
       with_reducible refine (SP.out _ HB.out).mono ?_
       rintro e w5 ⟨u, rfl, g, cap, rfl, hg, ht, hb5⟩
       have HT := Lib.hid ht
       have HG : Hid (w.heap.size ≤ g) := Nat.le_trans HB.out.size hg
       have HB5 := Lib.hid (below_step HB.out hb5)
       clear hg ht hb5))
  go_ret2
  exact ⟨_, rfl, g, cap, rfl, HG.out, HT.out, HB5.out⟩
end Go.Proofs.YthbdeaglncoanaaGreatDoor

namespace Go.Proofs.YthbdeaglncoanaaGreatDoor
open Go.RowKit
set_option linter.unusedVariables false
set_option linter.unusedSimpArgs false

theorem gb_call {w w1 w2 : World} {row : Option Nat} (h : w.grownBy w1 row) (hb : Below w1.heap.size w1 w2) : w.grownBy w2 row :=
  ⟨hb.os.trans h.os, hb.tape.trans h.tape, hb.output.trans h.output, Nat.le_trans h.size hb.size, fun k hk hr => (hb.block k (Nat.lt_of_lt_of_le hk h.size)).trans (h.block k hk hr)⟩
theorem gb_set {w w1 : World} {g : Nat} (h : w.grownBy w1 (some g)) (i : Nat) (u : Value) : w.grownBy (w1.setCell ⟨g, i, none⟩ u) (some g) :=
  ⟨h.os, h.tape, h.output, by rw [show (w1.setCell ⟨g, i, none⟩ u).heap.size = w1.heap.size by simp [World.setCell]]; exact h.size, fun k hk hr => (Below.heap_setCell w1 ⟨g, i, none⟩ u k (fun e => hr (by rw [e]))).trans (h.block k hk hr)⟩
theorem words_ln1 {C : Scs} {k : Nat} {t : ByteArray} (h : secP C k) (ht : t.data.toList = ln1 C k) : words t = [⟨wSec.toArray⟩, C.Nm k, ⟨(Lib.itoa (C.Ht k)).toArray⟩, ⟨(Lib.itoa (C.Pr k)).toArray⟩] := by
  unfold words
  rw [ht, ln1_wds h]
  rfl
theorem strs4 {w : World} {b : Nat} {a0 a1 a2 a3 : ByteArray} (h : StrAt w b 0 4 (fun k => [a0, a1, a2, a3].getD k ByteArray.empty)) : b < w.heap.size ∧ w.cell? ⟨b, 0, none⟩ = some (.string a0) ∧ w.cell? ⟨b, 1, none⟩ = some (.string a1) ∧ w.cell? ⟨b, 2, none⟩ = some (.string a2) ∧ w.cell? ⟨b, 3, none⟩ = some (.string a3) :=
  ⟨h.1, h.2 0 (by omega), h.2 1 (by omega), h.2 2 (by omega), h.2 3 (by omega)⟩
theorem strs4_b {w w' : World} {b : Nat} {a0 a1 a2 a3 : Value} (h : b < w.heap.size ∧ w.cell? ⟨b, 0, none⟩ = some a0 ∧ w.cell? ⟨b, 1, none⟩ = some a1 ∧ w.cell? ⟨b, 2, none⟩ = some a2 ∧ w.cell? ⟨b, 3, none⟩ = some a3) (hb : w'.heap[b]? = w.heap[b]?) (hs : w.heap.size ≤ w'.heap.size) : b < w'.heap.size ∧ w'.cell? ⟨b, 0, none⟩ = some a0 ∧ w'.cell? ⟨b, 1, none⟩ = some a1 ∧ w'.cell? ⟨b, 2, none⟩ = some a2 ∧ w'.cell? ⟨b, 3, none⟩ = some a3 :=
  ⟨Nat.lt_of_lt_of_le h.1 hs, (World.cell?_of_block hb).trans h.2.1, (World.cell?_of_block hb).trans h.2.2.1, (World.cell?_of_block hb).trans h.2.2.2.1, (World.cell?_of_block hb).trans h.2.2.2.2⟩
set_option maxRecDepth 100000 in
set_option maxHeartbeats 4000000 in
theorem c_head (C : Scs) (k : Nat) (t : ByteArray) (hp : secP C k) (ht : t.data.toList = ln1 C k) (g : Nat) (v0 v1 v2 v3 v4 : Value) (w : World) (hE : EnvM w) (hgE : ∀ w', w.grownBy w' (some g) → EnvM w') (hb : Blk w g 40 #[v0, v1, v2, v3, v4]) :
    Calls Tryz.prog 29 #[.string t, .pointer (some ⟨g, 0, none⟩)] w fun e w' => e = .returned (.bool true) ∧ Blk w' g 40 #[.string (C.Nm k), .int .i64 (C.Ht k), .int .i64 (C.Pr k), v3, v4] ∧ w.grownBy w' (some g) := by
  have hsz : t.size ≤ 300000 := by
    have e : t.data.toList.length = t.size := rfl
    have := (ln_len hp).1
    rw [ht] at e
    omega
  have SS := Lib.hid (tsplitw t hsz w)
  rw [words_ln1 hp ht] at SS
  obtain ⟨n1, hn1⟩ : ∃ n1, n1 = C.Nm k := ⟨_, rfl⟩
  obtain ⟨a, ha⟩ : ∃ a, a = C.Ht k := ⟨_, rfl⟩
  obtain ⟨b, hb'⟩ : ∃ b, b = C.Pr k := ⟨_, rfl⟩
  have hn : n1.toList ≠ [] := fun e => by
    have h0 := (secP_n hp).2.2.1
    rw [← hn1, ← ByteArray.toList_eq, e] at h0
    exact absurd h0 (by decide)
  have ra : -72057594037927936 ≤ a ∧ a ≤ 72057594037927936 := by
    obtain ⟨_, h1, h2, h3, h4, _⟩ := hp
    omega
  have rb : -72057594037927936 ≤ b ∧ b ≤ 72057594037927936 := by
    obtain ⟨_, h1, h2, h3, h4, _⟩ := hp
    omega
  have N1 : Hid (∀ w', w.grownBy w' (some g) → Calls Tryz.prog 51 #[.string ⟨(Lib.itoa a).toArray⟩] w' fun e w'' => e = .returned (.tuple #[.int .i64 a, .bool true]) ∧ Below w'.heap.size w' w'') := fun w' h => c_number a ra w' (hgE w' h)
  have N2 : Hid (∀ w', w.grownBy w' (some g) → Calls Tryz.prog 51 #[.string ⟨(Lib.itoa b).toArray⟩] w' fun e w'' => e = .returned (.tuple #[.int .i64 b, .bool true]) ∧ Below w'.heap.size w' w'') := fun w' h => c_number b rb w' (hgE w' h)
  rw [← hn1, ← ha, ← hb'] at SS ⊢
  obtain ⟨sa, hsa⟩ : ∃ sa : ByteArray, sa = ⟨(Lib.itoa a).toArray⟩ := ⟨_, rfl⟩
  obtain ⟨sb, hsb⟩ : ∃ sb : ByteArray, sb = ⟨(Lib.itoa b).toArray⟩ := ⟨_, rfl⟩
  rw [← hsa] at SS N1
  rw [← hsb] at SS N2
  have t1 : (n1.toList == []) = false := by simp [hn]
  have t2 : (n1.toList == (⟨#[]⟩ : ByteArray).toList) = false := by simp [hn]
  have t3 : decide (n1.toList = []) = false := by simp [hn]
  have HB := Lib.hid hb
  have HGE : Hid (g < w.heap.size) := hb.lt
  clear hp ht hE hgE hb hsz hn1 ha hb' hsa hsb ra rb
  go_enter Tryz.func29, Tryz.ntmps29
  go_upto_region 2 with (first
    | (go_at_call 50
       with_reducible refine SS.out.mono ?_
       rintro e w1 ⟨rfl, hs, hb1⟩
       have HS := Lib.hid (strs4 hs)
       have HB := Lib.hid (HB.out.call hb1)
       have HG : Hid (w.grownBy w1 (some g)) := gb_call ⟨rfl, rfl, rfl, Nat.le_refl _, fun _ _ _ => rfl⟩ hb1
       clear hs hb1))
  generalize hS : w.heap.size = S at HS HGE ⊢
  have SN : Hid (S ≠ g) := by have := HGE.out; show S ≠ g; omega
  obtain ⟨s0, s1, s2, s3, s4⟩ := HS.out
  go_upto_region 5 with fail
  have f0 := HB.out.frozen 0
  have x0 := (blk5 HB.out).1
  go_upto_region 6 with fail
  clear s0 s1 s2 s3 s4 f0 x0
  have HS2 := Lib.hid (strs4_b HS.out (Below.heap_setCell w1 ⟨g, 0, none⟩ (.string n1) S SN.out) (by rw [show (w1.setCell ⟨g, 0, none⟩ (.string n1)).heap.size = w1.heap.size by simp [World.setCell]]; exact Nat.le_refl _))
  have HB2 := Lib.hid (HB.out.set_ 0 (.string n1))
  have HG2 := Lib.hid (gb_set HG.out 0 (.string n1))
  clear HS HB HG
  have HS := HS2
  have HB := HB2
  have HG := HG2
  clear HS2 HB2 HG2
  generalize w1.setCell ⟨g, 0, none⟩ (.string n1) = w2 at HS HB HG ⊢
  simp only [List.setIfInBounds_toArray, List.set_cons_zero, List.set_cons_succ] at HB
  obtain ⟨s0, s1, s2, s3, s4⟩ := HS.out
  have f1 := HB.out.frozen 1
  have x1 := (blk5 HB.out).2.1
  go_upto_region 7 with (first
    | (go_at_call 51
       with_reducible refine (N1.out _ HG.out).mono ?_
       rintro e w1 ⟨rfl, hb1⟩
       clear s0 s1 s2 s3 s4 f1 x1
       have HS := Lib.hid (strs4_b HS.out (hb1.block _ HS.out.1) hb1.size)
       have HB := Lib.hid (HB.out.call hb1)
       have HG := Lib.hid (gb_call HG.out hb1)
       clear hb1
       obtain ⟨s0, s1, s2, s3, s4⟩ := HS.out
       have f1 := HB.out.frozen 1
       have x1 := (blk5 HB.out).2.1))
  clear s0 s1 s2 s3 s4 f1 x1
  have HS2 := Lib.hid (strs4_b HS.out (Below.heap_setCell w1 ⟨g, 1, none⟩ (.int .i64 a) S SN.out) (by rw [show (w1.setCell ⟨g, 1, none⟩ (.int .i64 a)).heap.size = w1.heap.size by simp [World.setCell]]; exact Nat.le_refl _))
  have HB2 := Lib.hid (HB.out.set_ 1 (.int .i64 a))
  have HG2 := Lib.hid (gb_set HG.out 1 (.int .i64 a))
  clear HS HB HG
  have HS := HS2
  have HB := HB2
  have HG := HG2
  clear HS2 HB2 HG2
  generalize w1.setCell ⟨g, 1, none⟩ (.int .i64 a) = w2 at HS HB HG ⊢
  simp only [List.setIfInBounds_toArray, List.set_cons_zero, List.set_cons_succ] at HB
  obtain ⟨s0, s1, s2, s3, s4⟩ := HS.out
  have f2 := HB.out.frozen 2
  have x2 := (blk5 HB.out).2.2.1
  go_upto_region 8 with (first
    | (go_at_call 51
       with_reducible refine (N2.out _ HG.out).mono ?_
       rintro e w1 ⟨rfl, hb1⟩
       clear s0 s1 s2 s3 s4 f2 x2
       have HS := Lib.hid (strs4_b HS.out (hb1.block _ HS.out.1) hb1.size)
       have HB := Lib.hid (HB.out.call hb1)
       have HG := Lib.hid (gb_call HG.out hb1)
       clear hb1
       obtain ⟨s0, s1, s2, s3, s4⟩ := HS.out
       have f2 := HB.out.frozen 2
       have x2 := (blk5 HB.out).2.2.1))
  clear s0 s1 s2 s3 s4 f2 x2
  have HS2 := Lib.hid (strs4_b HS.out (Below.heap_setCell w1 ⟨g, 2, none⟩ (.int .i64 b) S SN.out) (by rw [show (w1.setCell ⟨g, 2, none⟩ (.int .i64 b)).heap.size = w1.heap.size by simp [World.setCell]]; exact Nat.le_refl _))
  have HB2 := Lib.hid (HB.out.set_ 2 (.int .i64 b))
  have HG2 := Lib.hid (gb_set HG.out 2 (.int .i64 b))
  clear HS HB HG
  have HS := HS2
  have HB := HB2
  have HG := HG2
  clear HS2 HB2 HG2
  generalize w1.setCell ⟨g, 2, none⟩ (.int .i64 b) = w2 at HS HB HG ⊢
  simp only [List.setIfInBounds_toArray, List.set_cons_zero, List.set_cons_succ] at HB
  go_wp2_with fail
  go_ret
  exact ⟨rfl, HB.out, HG.out⟩
end Go.Proofs.YthbdeaglncoanaaGreatDoor

namespace Go.Proofs.YthbdeaglncoanaaGreatDoor
open Go.RowKit
set_option linter.unusedVariables false
set_option linter.unusedSimpArgs false

theorem flat_at {α : Type} (f : α → List Value) (n : Nat) (hf : ∀ a, (f a).length = n) : ∀ (L : List α) (k i : Nat) (a : α), L[k]? = some a → i < n → (L.flatMap f)[k * n + i]? = (f a)[i]? := by
  intro L
  induction L with
  | nil => intro k i a h; simp at h
  | cons p L ih =>
    intro k i a h hi
    rw [List.flatMap_cons]
    cases k with
    | zero =>
      simp only [List.getElem?_cons_zero, Option.some.injEq] at h
      subst h
      rw [Nat.zero_mul, Nat.zero_add, List.getElem?_append_left (by rw [hf]; exact hi)]
    | succ k =>
      rw [List.getElem?_append_right (by rw [hf, Nat.succ_mul]; omega), hf, show (k + 1) * n + i - n = k * n + i by rw [Nat.succ_mul]; omega]
      exact ih k i a (by simpa using h) hi
theorem TabIn.grown {w w' : World} {A : Option Addr} {n : Nat} {F G : Nat → Int} {row : Option Nat} (h : TabIn w A n F G) (hg : w.grownBy w' row) (hA : n ≠ 0 → ∀ b off, A = some ⟨b, off, none⟩ → some b ≠ row) : TabIn w' A n F G := by
  refine ⟨h.1, ?_⟩
  by_cases hn : n = 0
  · exact .inl hn
  rcases h.2 with h0 | ⟨b, off, hb, h1, h2⟩
  · exact .inl h0
  · have hk := hg.block b h1 (hA hn b off hb)
    exact .inr ⟨b, off, hb, Nat.lt_of_lt_of_le h1 hg.size, fun k hk2 => ⟨(World.cell?_of_block hk).trans (h2 k hk2).1, (World.cell?_of_block hk).trans (h2 k hk2).2⟩⟩
theorem TabIn.blk_lt {w : World} {b off n : Nat} {F G : Nat → Int} (h : TabIn w (some ⟨b, off, none⟩) n F G) (hn : n ≠ 0) : b < w.heap.size := by
  rcases h.2 with h0 | ⟨b', off', hb, h1, _⟩
  · exact absurd h0 hn
  · cases hb; exact h1
theorem below_grown {B : Nat} {w0 w w8 : World} {row : Option Nat} (h : Below B w0 w) (hB : B ≤ w.heap.size) (hg : w.grownBy w8 row) (hr : ∀ g, row = some g → B ≤ g) : Below B w0 w8 := h.grown hg hB hr
theorem gr_set (w : World) (g i : Nat) (u : Value) : w.grownBy (w.setCell ⟨g, i, none⟩ u) (some g) := gb_set ⟨rfl, rfl, rfl, Nat.le_refl _, fun _ _ _ => rfl⟩ i u
theorem kaddrE (b off j : Nat) : (⟨b, off, none⟩ : Addr).add j = ⟨b, off + j, none⟩ := by
  unfold Addr.add
  by_cases h : j = 0
  · subst h; rfl
  · simp [h]
/-- Where the tables of a section that was read lie. -/
structure Sem where
  a : Option Addr
  c : Nat
  b : Option Addr
  d : Nat
def zSm : Sem := ⟨none, 0, none, 0⟩
/-- The sections of C with tables elsewhere. -/
def scL (C : Scs) (M : List Sem) : Scs := { C with AA := fun k => (M.getD k zSm).a, AC := fun k => (M.getD k zSm).c, BA := fun k => (M.getD k zSm).b, BC := fun k => (M.getD k zSm).d }
theorem scL_len (C : Scs) (M : List Sem) (k : Nat) : ((scL C M).vals k).length = 5 := rfl
def sct (C : Scs) (M : List Sem) : List Value := (List.range M.length).flatMap (scL C M).vals
theorem getD_at (M : List Sem) (p : Sem) : (M ++ [p]).getD M.length zSm = p := by simp [List.getD]
theorem getD_old (M : List Sem) (p : Sem) {k : Nat} (h : k < M.length) : (M ++ [p]).getD k zSm = M.getD k zSm := by simp [List.getD, List.getElem?_append_left h]
/-- The cells of a section that was just read. -/
def semA (C : Scs) (k : Nat) (p : Sem) : List Value := [.string (C.Nm k), .int .i64 (C.Ht k), .int .i64 (C.Pr k), .slice p.a (C.AN k) p.c, .slice p.b (C.BN k) p.d]
theorem vals_new (C : Scs) (M : List Sem) (p : Sem) : (scL C (M ++ [p])).vals M.length = semA C M.length p := by
  unfold Scs.vals semA scL
  simp only [getD_at]
theorem vals_old (C : Scs) (M : List Sem) (p : Sem) {k : Nat} (h : k < M.length) : (scL C (M ++ [p])).vals k = (scL C M).vals k := by
  unfold Scs.vals scL
  simp only [getD_old M p h]
theorem flat_congr {α : Type} {f g : α → List Value} : ∀ (L : List α), (∀ a, a ∈ L → f a = g a) → L.flatMap f = L.flatMap g
  | [], _ => rfl
  | x :: L, h => by
    rw [List.flatMap_cons, List.flatMap_cons, h x (by simp), flat_congr L fun a ha => h a (by simp [ha])]
theorem sct_snoc (C : Scs) (M : List Sem) (p : Sem) : sct C (M ++ [p]) = sct C M ++ semA C M.length p := by
  unfold sct
  rw [List.length_append, List.length_singleton, List.range_succ, List.flatMap_append]
  congr 1
  · exact flat_congr _ fun k hk => vals_old C M p (List.mem_range.1 hk)
  · rw [List.flatMap_singleton, vals_new]
theorem infoSe : (Tryz.prog.info? 40).map (fun i => (i.zero, i.size, i.bytes)) = some (some (.agg #[.string ⟨#[]⟩, .int .i64 0, .int .i64 0, .slice none 0 0, .slice none 0 0]), 5, 80) := by kernel_rfl
theorem sem_one (C : Scs) (k : Nat) (p : Sem) : ∀ u ∈ semA C k p, u.oneCell' = true := by
  intro u hu
  unfold semA at hu
  simp only [List.mem_cons, List.mem_nil_iff, or_false] at hu
  rcases hu with rfl | rfl | rfl | rfl | rfl <;> rfl
/-- One section more. -/
theorem wpList_append_se {w : World} {ops : Array Oper} {rest : List Oper} {o : Oper} {a : Act} {Q : Exit → Act → World → Prop} (hgd : o.guard = none) (s x : Operand)
    (ho : o.op = .call { callee := .builtin .append, args := #[s, x], argTypes := #[22, 22] })
    (base : Nat) (v : Value) (C : Scs) (M : List Sem) (hs : a.eval s = v) (hown : w.ownsRow base 40 5 v M.length (sct C M)) (g : Nat) (p : Sem) (hx : a.eval x = .slice (some ⟨g, 0, none⟩) 1 1) (hb : Blk w g 40 (semA C M.length p).toArray) (h2 : M.length ≤ 20000) (w0 : World) (hb0 : Below base w0 w) (hbase : base ≤ w0.heap.size)
    (h : ∀ A c w', w'.ownsRow base 40 5 (.slice A (M ++ [p]).length c) (M ++ [p]).length (sct C (M ++ [p])) → Below base w0 w' → w.grownBy w' v.ownBlock → ((Value.slice A (M ++ [p]).length c).ownBlock = v.ownBlock ∨ (Value.slice A (M ++ [p]).length c).ownBlock = some w.heap.size) → wpList Tryz.prog ops Q rest (a.put o.dst (.slice A (M ++ [p]).length c)) w') :
    wpList Tryz.prog ops Q (o :: rest) a w := by
  obtain ⟨i, hi, hz0, hz1, hz2⟩ := info_parts1 infoSe
  have hm : M.length + 1 ≤ maxLen := by unfold maxLen; omega
  have hbw : base ≤ w.heap.size := Nat.le_trans hbase hb0.size
  refine wpList_append_own_at _ hgd s x 22 ho base 40 i _ 5 80 Tryz.underlying22 hi hz0 hz1 hz2 rfl (by decide) v M.length (sct C M) hs hown ⟨g, 0, none⟩ 1 1 (semA C M.length p) hx rfl (fun j u hj => ?_) (sem_one C M.length p) hm (by omega) hbw ?_
  · have := hb.cells j u hj
    rwa [show (⟨g, 0, none⟩ : Addr).add j = ⟨g, 0 + j, none⟩ from kaddrE g 0 j]
  · intro v' w' ho1 hg _ hat
    have hl : (M ++ [p]).length = M.length + 1 := by simp
    rw [← sct_snoc, ← hl] at ho1
    obtain ⟨g2, c2, rfl, _, _⟩ := ho1.form (by simp)
    exact h _ c2 w' ho1 (below_grown hb0 hbw hg fun q e => (hown.lt q e).1) hg hat
/-- The tables of the read sections lie apart from a row, and from B on. -/
def SepS (W : World) (row : Option Nat) (B : Nat) (C : Scs) (M : List Sem) : Prop := ∀ k, k < M.length →
  (TabIn W (M.getD k zSm).a (C.AN k) (C.AX k) (C.AY k) ∧ (C.AN k ≠ 0 → ∀ b off, (M.getD k zSm).a = some ⟨b, off, none⟩ → some b ≠ row ∧ B ≤ b)) ∧
  (TabIn W (M.getD k zSm).b (C.BN k) (C.BX k) (C.BY k) ∧ (C.BN k ≠ 0 → ∀ b off, (M.getD k zSm).b = some ⟨b, off, none⟩ → some b ≠ row ∧ B ≤ b))
theorem SepS.nil (W : World) (row : Option Nat) (B : Nat) (C : Scs) : SepS W row B C [] := fun k hk => absurd hk (by simp)
theorem SepS.grown {W W' : World} {row : Option Nat} {B : Nat} {C : Scs} {M : List Sem} {g : Nat} (h : SepS W row B C M) (hg : W.grownBy W' (some g)) (hB : g < B) : SepS W' row B C M := fun k hk => by
  obtain ⟨⟨a1, a2⟩, b1, b2⟩ := h k hk
  exact ⟨⟨a1.grown hg fun h0 b off e e2 => by have := (a2 h0 b off e).2; have := Option.some.inj e2; omega, a2⟩, ⟨b1.grown hg fun h0 b off e e2 => by have := (b2 h0 b off e).2; have := Option.some.inj e2; omega, b2⟩⟩
theorem SepS.call {W W' : World} {row : Option Nat} {B : Nat} {C : Scs} {M : List Sem} (h : SepS W row B C M) (hb : Below W.heap.size W W') : SepS W' row B C M := fun k hk =>
  ⟨⟨(h k hk).1.1.below (Nat.le_refl _) hb, (h k hk).1.2⟩, ⟨(h k hk).2.1.below (Nat.le_refl _) hb, (h k hk).2.2⟩⟩
/-- A section more, and the row may move. -/
theorem SepS.app {W W' : World} {row row' : Option Nat} {B : Nat} {C : Scs} {M : List Sem} {p : Sem} (h : SepS W row B C M)
    (ha : TabIn W p.a (C.AN M.length) (C.AX M.length) (C.AY M.length) ∧ (C.AN M.length ≠ 0 → ∀ b off, p.a = some ⟨b, off, none⟩ → some b ≠ row ∧ B ≤ b))
    (hb : TabIn W p.b (C.BN M.length) (C.BX M.length) (C.BY M.length) ∧ (C.BN M.length ≠ 0 → ∀ b off, p.b = some ⟨b, off, none⟩ → some b ≠ row ∧ B ≤ b))
    (hg : W.grownBy W' row) (hr : row' = row ∨ row' = some W.heap.size) : SepS W' row' B C (M ++ [p]) := fun k hk => by
  have key : (TabIn W ((M ++ [p]).getD k zSm).a (C.AN k) (C.AX k) (C.AY k) ∧ (C.AN k ≠ 0 → ∀ b off, ((M ++ [p]).getD k zSm).a = some ⟨b, off, none⟩ → some b ≠ row ∧ B ≤ b)) ∧ (TabIn W ((M ++ [p]).getD k zSm).b (C.BN k) (C.BX k) (C.BY k) ∧ (C.BN k ≠ 0 → ∀ b off, ((M ++ [p]).getD k zSm).b = some ⟨b, off, none⟩ → some b ≠ row ∧ B ≤ b)) := by
    rcases Nat.lt_or_ge k M.length with g | g
    · rw [getD_old M p g]; exact h k g
    · have e : k = M.length := by rw [List.length_append, List.length_singleton] at hk; omega
      subst e
      rw [getD_at]; exact ⟨ha, hb⟩
  obtain ⟨⟨a1, a2⟩, b1, b2⟩ := key
  refine ⟨⟨a1.grown hg fun h0 b off e => (a2 h0 b off e).1, fun h0 b off e => ⟨fun e2 => ?_, (a2 h0 b off e).2⟩⟩, ⟨b1.grown hg fun h0 b off e => (b2 h0 b off e).1, fun h0 b off e => ⟨fun e2 => ?_, (b2 h0 b off e).2⟩⟩⟩
  · rcases hr with hr | hr
    · exact (a2 h0 b off e).1 (e2.trans hr)
    · have hlt : b < W.heap.size := by rw [e] at a1; exact a1.blk_lt h0
      have := Option.some.inj (e2.trans hr)
      omega
  · rcases hr with hr | hr
    · exact (b2 h0 b off e).1 (e2.trans hr)
    · have hlt : b < W.heap.size := by rw [e] at b1; exact b1.blk_lt h0
      have := Option.some.inj (e2.trans hr)
      omega
/-- The read sections, to be used. -/
theorem sections_of {W : World} {B B' : Nat} {row : Option Nat} {C : Scs} {M : List Sem} {A : Option Addr} {n c : Nat} (hon : W.ownsRow B 40 5 (.slice A n c) M.length (sct C M)) (ht : SepS W row B' C M) (hb : M.length ≤ 20000) : n = M.length ∧ ScIn W A M.length (scL C M) := by
  rcases hon.2 with ⟨hv, h0⟩ | ⟨g, cap, cur, hv, hg, hbk, hnc, hcm, hs, htk⟩
  · cases hv
    exact ⟨h0.symm, by omega, .inl h0⟩
  · cases hv
    refine ⟨rfl, by omega, ?_⟩
    refine .inr ⟨g, 0, rfl, (hon.lt g rfl).2, fun k hk => ?_⟩
    refine ⟨fun i v hi => ?_, (ht k hk).1.1, (ht k hk).2.1⟩
    have hi9 : i < 5 := (List.getElem?_eq_some_iff.1 hi).1
    have hk9 : k * 5 + 5 ≤ M.length * 5 := by omega
    rw [Nat.zero_add, hon.cellAt (k * 5 + i) (by omega)]
    rw [← hi]
    unfold sct
    exact flat_at _ 5 (scL_len C M) (List.range M.length) k i k (by simp [hk]) hi9
theorem ownsRow_gb {W W' : World} {base size k g : Nat} {e : TypeId} {v : Value} {xs : List Value} (h : W.ownsRow base e size v k xs) (hg : W.grownBy W' (some g)) (hB : g < base) : W'.ownsRow base e size v k xs := by
  refine h.kept hg ?_
  rcases h.2 with ⟨rfl, _⟩ | ⟨g', cap, cur, rfl, hge, hgb, _⟩
  · exact .inl rfl
  · refine .inr fun e' => ?_
    have : g' = g := by simpa [Value.ownBlock] using e'
    omega
end Go.Proofs.YthbdeaglncoanaaGreatDoor

/- Merged: RwR, RdR, Aw, AwF. -/
import Derived.Test.YtfldmnikdejekaaGreatDoorRwT
import Derived.StillTailTactics
import Derived.Test.YtfldmnikdejekaaGreatDoorRd
import Derived.Test.YtfldmnikdejekaaGreatDoorFmt
namespace Go.Proofs.YtfldmnikdejekaaGreatDoor
open Go.RowKit
set_option linter.unusedVariables false
set_option linter.unusedSimpArgs false

theorem RMem5.drew {w wr : World} {u : Value} {N : Nat} {R : List ByteArray} (h : RMem5 w wr u N R) : RMem5 w wr.drew u N R := ⟨h.1.drew, h.2.drew⟩
end Go.Proofs.YtfldmnikdejekaaGreatDoor

namespace Go.Proofs.YtfldmnikdejekaaGreatDoor
open Go.RowKit
set_option linter.unusedVariables false
set_option linter.unusedSimpArgs false

/-- What the loop over the digits keeps. -/
def NInv (T : List UInt8) (i n d : Nat) : Prop := d ≤ 18 ∧ n < 10 ^ d ∧ ((i = 0 ∧ n = 0 ∧ d = 0) ∨ (0 < i ∧ dig (unsg T) 0 0 = dig (T.drop i) n d))
theorem byte_at (s : ByteArray) (k : Nat) (h : k < s.size) : s.data.toList.drop k = s[k] :: s.data.toList.drop (k + 1) := by
  have hl : k < s.data.toList.length := by rw [← size_list]; exact h
  rw [List.drop_eq_getElem_cons hl]
  congr 1
theorem NInv.start (T : List UInt8) : NInv T 0 0 0 := ⟨by omega, by decide, .inl ⟨rfl, rfl, rfl⟩⟩
/-- Where the loop looks at a byte that it does not pass over. -/
theorem NInv.here {s : ByteArray} {i n d : Nat} (h : NInv s.data.toList i n d) (hi : i < s.size) (hm : i = 0 → s[i] ≠ 45) : dig (unsg s.data.toList) 0 0 = dig (s[i] :: s.data.toList.drop (i + 1)) n d := by
  rcases h.2.2 with ⟨rfl, rfl, rfl⟩ | ⟨h0, e⟩
  · have e := byte_at s 0 hi
    rw [List.drop_zero] at e
    rw [unsg_not (by rw [e]; intro h; exact hm rfl (Option.some.inj h)), e]
    simp
  · rw [e, byte_at s i hi]
theorem NInv.minus {s : ByteArray} {n d : Nat} (h : NInv s.data.toList 0 n d) (hi : 0 < s.size) (hm : s[0] = 45) : NInv s.data.toList 1 n d := by
  refine ⟨h.1, h.2.1, .inr ⟨by omega, ?_⟩⟩
  rcases h.2.2 with ⟨_, rfl, rfl⟩ | ⟨h0, e⟩
  · have e := byte_at s 0 hi
    rw [List.drop_zero, hm] at e
    rw [e, unsg_minus]
    simp
  · omega
theorem NInv.bad {s : ByteArray} {i n d : Nat} (h : NInv s.data.toList i n d) (hi : i < s.size) (hm : i = 0 → s[i] ≠ 45) (hb : s[i].toNat < 48 ∨ 57 < s[i].toNat ∨ d = 18) : refnum s.data.toList = none := by
  unfold refnum
  rw [h.here hi hm]
  simp only [dig, if_pos hb]
theorem NInv.good {s : ByteArray} {i n d : Nat} (h : NInv s.data.toList i n d) (hi : i < s.size) (hm : i = 0 → s[i] ≠ 45) (hb : ¬ (s[i].toNat < 48 ∨ 57 < s[i].toNat ∨ d = 18)) : NInv s.data.toList (i + 1) (10 * n + (s[i].toNat - 48)) (d + 1) := by
  refine ⟨by have := h.1; omega, ?_, .inr ⟨by omega, ?_⟩⟩
  · have := h.2.1
    rw [Nat.pow_succ]; omega
  · rw [h.here hi hm]
    simp only [dig, if_neg hb]
theorem NInv.fin {s : ByteArray} {n d : Nat} (h : NInv s.data.toList s.size n d) : dig (unsg s.data.toList) 0 0 = some (n, d) := by
  rcases h.2.2 with ⟨h0, rfl, rfl⟩ | ⟨h0, e⟩
  · have : s.data.toList = [] := List.eq_nil_of_length_eq_zero (by rw [← size_list]; exact h0)
    rw [this]; rfl
  · rw [e, List.drop_of_length_le (by rw [← size_list]; exact Nat.le_refl _)]
    rfl
theorem NInv.lt {T : List UInt8} {i n d : Nat} (h : NInv T i n d) : n < 1000000000000000000 := by
  have := Nat.pow_le_pow_right (n := 10) (by decide) h.1
  rw [pow18] at this
  have := h.2.1
  omega
/-- What the text after the last space gives. -/
theorem rd_none {s : ByteArray} {k : Nat} (h5 : s.size ≤ 500) (k1 : 1 ≤ k) (k2 : k < s.size) (hk : Lib.lastIndexByte s 32 = (k : Int)) (h : refnum (s.extract (k + 1) s.size).data.toList = none) : RdIs s ByteArray.empty 0 7 :=
  ⟨.inr (.inr ⟨h5, k, k1, k2, hk, .inr ⟨fun v hv => (refnum_none _).1 h ⟨v, hv⟩, rfl, rfl, rfl⟩⟩)⟩
theorem rd_some {s : ByteArray} {k : Nat} {v : Int} (h5 : s.size ≤ 500) (k1 : 1 ≤ k) (k2 : k < s.size) (hk : Lib.lastIndexByte s 32 = (k : Int)) (h : refnum (s.extract (k + 1) s.size).data.toList = some v) : RdIs s (s.extract 0 k) v 0 :=
  ⟨.inr (.inr ⟨h5, k, k1, k2, hk, .inl ⟨⟨v, (refnum_iff _ _).1 h, rfl⟩, rfl, rfl⟩⟩)⟩
theorem ref_zero {T : List UInt8} {n : Nat} (h : dig (unsg T) 0 0 = some (n, 0)) : refnum T = none := by unfold refnum; rw [h]; rfl
theorem ref_ne {T : List UInt8} {n d : Nat} (h : dig (unsg T) 0 0 = some (n, d)) (hd : d ≠ 0) (hne : Lib.itoa (sgn T n) ≠ T) : refnum T = none := by
  unfold refnum; rw [h]
  show (if d = 0 then none else if _ then _ else none) = none
  rw [if_neg hd, if_neg hne]
theorem ref_eq {T : List UInt8} {n d : Nat} (h : dig (unsg T) 0 0 = some (n, d)) (hd : d ≠ 0) (he : Lib.itoa (sgn T n) = T) : refnum T = some (sgn T n) := by
  unfold refnum; rw [h]
  show (if d = 0 then none else if _ then some _ else none) = _
  rw [if_neg hd, if_pos he]
def RdPost (s : ByteArray) (w : World) (e' : Ending) (w' : World) : Prop := ∃ (l : ByteArray) (n e : Int), RdIs s l n e ∧ e' = .returned (.tuple #[.string l, .int .i64 n, .int .i64 e]) ∧ Below w.heap.size w w'
theorem data_at (s : ByteArray) (k : Nat) (h : k < s.size) : (s.data[k]!).toNat = (s[k]'h).toNat := by
  rw [getElem!_pos s.data k h]; rfl
end Go.Proofs.YtfldmnikdejekaaGreatDoor

namespace Go.Proofs.YtfldmnikdejekaaGreatDoor
open Go.RowKit
set_option linter.unusedVariables false
set_option linter.unusedSimpArgs false

theorem tread_at {s l : ByteArray} {n e : Int} (hs : s.size ≤ 1000) (h : RdIs s l n e) (w : World) (hE : Env5 w) :
    Calls Tryz.prog 32 #[.string s] w fun e' w' => e' = .returned (.tuple #[.string l, .int .i64 n, .int .i64 e]) ∧ Below w.heap.size w w' := by
  obtain ⟨l', n', e2, h2, hc⟩ := tread s hs
  obtain ⟨rfl, rfl, rfl⟩ := h.uniq h2
  exact hc w hE
theorem range_at (X : Nat → ByteArray) (n : Nat) {j : Nat} (hj : j < n) : ((List.range n).map X).getD j ByteArray.empty = X j := by
  simp [List.getD, hj]
theorem sequal_same (A B : Option Addr) (n c d : Nat) (X : Nat → ByteArray) (w : World) (hA : StrIn w A n X) (hB : StrIn w B n X) :
    Calls Tryz.prog 19 #[.slice A n c, .slice B n d] w fun e w' => e = .returned (.bool true) ∧ Below w.heap.size w w' := by
  rcases hA.2 with h0 | ⟨b1, o1, rfl, h1⟩
  · subst h0
    refine (Tryz.slices_Equal_string_empty A B c 0 d w (by omega)).mono ?_
    rintro e w' ⟨he, rfl⟩
    exact ⟨by rw [he]; rfl, Below.refl _ _⟩
  · rcases hB.2 with h0 | ⟨b2, o2, rfl, h2⟩
    · subst h0
      refine (Tryz.slices_Equal_string_empty _ _ c 0 d w (by omega)).mono ?_
      rintro e w' ⟨he, rfl⟩
      exact ⟨by rw [he]; rfl, Below.refl _ _⟩
    · refine (Tryz.slices_Equal_string b1 o1 n c b2 o2 n d ((List.range n).map X) ((List.range n).map X) w (by simp) (by simp) hA.1 hA.1 (fun j hj => ?_) (fun j hj => ?_)).mono ?_
      · have hj' : j < n := by simpa using hj
        rw [range_at X n hj']; exact h1.2 j hj'
      · have hj' : j < n := by simpa using hj
        rw [range_at X n hj']; exact h2.2 j hj'
      · rintro e w' ⟨he, q, rfl⟩
        exact ⟨by rw [he]; simp, below_drewN (Below.refl _ _) _⟩

def awX : Nat → ByteArray := fun k => if k = 0 then ⟨#[97]⟩ else if k = 1 then ⟨#[98, 98]⟩ else ⟨#[99]⟩
def awR : List ByteArray := [⟨#[97, 32, 98, 98]⟩, ⟨#[99]⟩]
theorem aw_good (i : Nat) (hi : i < 3) : ¬ badAt (awX i) ∧ ((awX i).size : Int) ≤ 4 := by
  have : i = 0 ∨ i = 1 ∨ i = 2 := by omega
  rcases this with rfl | rfl | rfl
  · refine ⟨?_, by decide⟩
    rintro (h | ⟨j, hj, h⟩)
    · cases h
    · have hj' : j < 1 := hj
      obtain rfl : j = 0 := by omega
      revert h; decide
  · refine ⟨?_, by decide⟩
    rintro (h | ⟨j, hj, h⟩)
    · cases h
    · have hj' : j < 2 := hj
      have : j = 0 ∨ j = 1 := by omega
      rcases this with rfl | rfl <;> (revert h; decide)
  · refine ⟨?_, by decide⟩
    rintro (h | ⟨j, hj, h⟩)
    · cases h
    · have hj' : j < 1 := hj
      obtain rfl : j = 0 := by omega
      revert h; decide
theorem aw_rows_is : RowsIs 4 3 awX awR 0 := by
  have h := RowsIs.ok (W := 4) (n := 3) (X := awX) (by omega) (fun i hi => (aw_good i hi).1) (fun i hi => (aw_good i hi).2)
  have e : rowsTo 4 awX 3 = awR := by decide
  rw [e] at h
  exact h
def awS : ByteArray := ⟨#[98, 97, 115, 105, 110, 32, 118, 111, 108, 117, 109, 101, 32, 45, 49, 50]⟩
def awL : ByteArray := ⟨#[98, 97, 115, 105, 110, 32, 118, 111, 108, 117, 109, 101]⟩
theorem aw_read_is : RdIs awS awL (-12) 0 := by
  have hc : Canon (awS.extract (12 + 1) awS.size).data.toList (-12) := by
    refine ⟨?_, by omega, by omega⟩
    rw [itoa_neg' (by omega), show (-12 : Int).natAbs = 12 from rfl, Lib.decDigits_two (by omega) (by omega)]
    decide
  exact ⟨.inr (.inr ⟨by decide, 12, by omega, by decide, by decide, .inl ⟨⟨-12, hc, rfl⟩, by decide, rfl⟩⟩)⟩
end Go.Proofs.YtfldmnikdejekaaGreatDoor

namespace Go.Proofs.YtfldmnikdejekaaGreatDoor
open Go.RowKit
set_option linter.unusedVariables false
set_option linter.unusedSimpArgs false

theorem aw5_in (w : World) : StrIn (w.alloc (Obj.cells #[.string ⟨#[97]⟩, .string ⟨#[98, 98]⟩, .string ⟨#[99]⟩] 9)) (some ⟨w.heap.size, 0, none⟩) 3 awX := by
  refine ⟨by omega, .inr ⟨w.heap.size, 0, rfl, by simp, fun k hk => ?_⟩⟩
  have : k = 0 ∨ k = 1 ∨ k = 2 := by omega
  rcases this with rfl | rfl | rfl <;> simp [awX]
theorem aw5_in2 (w : World) : StrIn (w.alloc (Obj.cells #[.string ⟨#[97, 32, 98, 98]⟩, .string ⟨#[99]⟩] 9)) (some ⟨w.heap.size, 0, none⟩) 2 (fun k => awR.getD k ByteArray.empty) := by
  refine ⟨by omega, .inr ⟨w.heap.size, 0, rfl, by simp, fun k hk => ?_⟩⟩
  have : k = 0 ∨ k = 1 := by omega
  rcases this with rfl | rfl <;> simp [awR]
set_option maxRecDepth 100000 in
set_option maxHeartbeats 2000000 in
theorem caw5 (w : World) (hE : Env5 w) : Calls Tryz.prog 11 #[] w fun e w' => e = .returned (.bool true) ∧ Below w.heap.size w w' := by
  have HE := Lib.hid hE
  have ST := Lib.hid fun (A : Option Addr) c w ht => trows A 3 c awX 4 (by omega) (fun i hi => by have := (aw_good i hi).2; omega) w ht
  have SR := Lib.hid fun w hE => tread_at (by decide) aw_read_is w hE
  have SE := Lib.hid fun (A B : Option Addr) (c d : Nat) w hA hB => sequal_same A B 2 c d (fun k => awR.getD k ByteArray.empty) w hA hB
  have b0 : Below w.heap.size w (w.alloc (Obj.cells #[.string ⟨#[97]⟩, .string ⟨#[98, 98]⟩, .string ⟨#[99]⟩] 9)) := by (repeat' (first | assumption | exact Below.refl _ _ | exact Below.size (by assumption) | (refine Below.setCell ?_ ?_ _) | (refine Below.alloc ?_ ?_ _) | (refine Below.drew ?_) | (refine below_drewN ?_ _) | (refine Below.trans ?_ (Below.mono ‹Below _ _ _› ?_)) | omega | (simp; done) | (simp; omega) | (simp at *; omega)))
  have B0 := Lib.hid b0
  clear hE b0
  unfold awS awL at SR
  go_enter Tryz.func11, Tryz.ntmps11
  go_wp2_with (first
    | (go_at_call 58
       with_reducible refine (ST.out _ _ _ (aw5_in w)).mono ?_
       rintro e w1 ⟨R, er, A1, c1, N1, hN, hR, rfl, hS, hb, _⟩
       obtain ⟨rfl, rfl⟩ := hR.uniq aw_rows_is
       obtain rfl : N1 = 2 := hN.trans rfl
       have HW1 := Lib.hid (below_step B0.out hb)
       have HS1 := Lib.hid hS
       clear hN hR hS hb)
    | (go_at_call 32
       with_reducible refine (SR.out _ ?_).mono ?_
       focus (exact HE.out.below HW1.out)
       rintro e w2 ⟨rfl, hb2⟩
       have HW2 := Lib.hid (below_step HW1.out hb2)
       have HS2 := Lib.hid (HS1.out.below (Nat.le_refl _) hb2)
       clear hb2)
    | (go_at_call 19
       with_reducible refine (SE.out _ _ _ _ _ ?_ ?_).mono ?_
       focus (exact HS2.out.below (Nat.le_refl _) (by (repeat' (first | assumption | exact Below.refl _ _ | exact Below.size (by assumption) | (refine Below.setCell ?_ ?_ _) | (refine Below.alloc ?_ ?_ _) | (refine Below.drew ?_) | (refine below_drewN ?_ _) | (refine Below.trans ?_ (Below.mono ‹Below _ _ _› ?_)) | omega | (simp; done) | (simp; omega) | (simp at *; omega)))))
       focus (exact aw5_in2 w2)
       rintro e w3 ⟨rfl, hb3⟩
       have HW3 := Lib.hid (below_step (HW2.out.alloc HW2.out.size (Obj.cells #[.string ⟨#[97, 32, 98, 98]⟩, .string ⟨#[99]⟩] 9)) hb3)
       clear hb3))
  go_ret
  exact ⟨by simp, HW3.out⟩
end Go.Proofs.YtfldmnikdejekaaGreatDoor

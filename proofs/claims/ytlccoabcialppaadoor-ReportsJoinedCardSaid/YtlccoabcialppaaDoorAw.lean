/- slices.Equal at strings; the examples of the chapter. -/
import Derived.Test.YtlccoabcialppaaDoorRwR
import Derived.Test.YtlccoabcialppaaDoorRdR
namespace Go.Proofs.YtlccoabcialppaaDoor
open Go.RowKit
set_option linter.unusedVariables false
set_option linter.unusedSimpArgs false

theorem rread_at {s l : ByteArray} {n e : Int} (hs : s.size ≤ 1000) (h : RdIs s l n e) (w : World) :
    Calls Tryd.prog 9 #[.string s] w fun e' w' => e' = .returned (.tuple #[.string l, .int .i64 n, .int .i64 e]) ∧ Below w.heap.size w w' := by
  refine (rread s hs w).mono ?_
  rintro e' w' ⟨l', n', e2, h2, he, hb⟩
  obtain ⟨rfl, rfl, rfl⟩ := h.uniq h2
  exact ⟨he, hb⟩
theorem tread_at {s l : ByteArray} {n e : Int} (hs : s.size ≤ 1000) (h : RdIs s l n e) (w : World) (hE : Env w) :
    Calls Tryd.prog 8 #[.string s] w fun e' w' => e' = .returned (.tuple #[.string l, .int .i64 n, .int .i64 e]) ∧ Below w.heap.size w w' := by
  obtain ⟨l', n', e2, h2, hc⟩ := tread s hs
  obtain ⟨rfl, rfl, rfl⟩ := h.uniq h2
  exact hc w hE
theorem range_at (X : Nat → ByteArray) (n : Nat) {j : Nat} (hj : j < n) : ((List.range n).map X).getD j ByteArray.empty = X j := by
  simp [List.getD, hj]
theorem sequal_same (A B : Option Addr) (n c d : Nat) (X : Nat → ByteArray) (w : World) (hA : StrIn w A n X) (hB : StrIn w B n X) :
    Calls Tryd.prog 12 #[.slice A n c, .slice B n d] w fun e w' => e = .returned (.bool true) ∧ Below w.heap.size w w' := by
  rcases hA.2 with h0 | ⟨b1, o1, rfl, h1⟩
  · subst h0
    refine (Tryd.slices_Equal_string_empty A B c 0 d w (by omega)).mono ?_
    rintro e w' ⟨he, rfl⟩
    exact ⟨by rw [he]; rfl, Below.refl _ _⟩
  · rcases hB.2 with h0 | ⟨b2, o2, rfl, h2⟩
    · subst h0
      refine (Tryd.slices_Equal_string_empty _ _ c 0 d w (by omega)).mono ?_
      rintro e w' ⟨he, rfl⟩
      exact ⟨by rw [he]; rfl, Below.refl _ _⟩
    · refine (Tryd.slices_Equal_string b1 o1 n c b2 o2 n d ((List.range n).map X) ((List.range n).map X) w (by simp) (by simp) hA.1 hA.1 (fun j hj => ?_) (fun j hj => ?_)).mono ?_
      · have hj' : j < n := by simpa using hj
        rw [range_at X n hj']; exact h1.2 j hj'
      · have hj' : j < n := by simpa using hj
        rw [range_at X n hj']; exact h2.2 j hj'
      · rintro e w' ⟨he, q, rfl⟩
        exact ⟨by rw [he]; simp, below_drewN (Below.refl _ _) _⟩

def awX : Nat → ByteArray := fun k => if k = 0 then ⟨#[97]⟩ else if k = 1 then ⟨#[98, 98]⟩ else ⟨#[99]⟩
def awR : List ByteArray := [⟨#[97, 32, 98, 98]⟩, ⟨#[99]⟩]
theorem aw_good (i : Nat) (hi : i < 3) : ¬ badAt (awX i) ∧ ((awX i).size : Int) ≤ 4 := by
  have : i = 0 ∨ i = 1 ∨ i = 2 := by omega
  rcases this with rfl | rfl | rfl
  · refine ⟨?_, by decide⟩
    rintro (h | ⟨j, hj, h⟩)
    · cases h
    · have hj' : j < 1 := hj
      obtain rfl : j = 0 := by omega
      revert h; decide
  · refine ⟨?_, by decide⟩
    rintro (h | ⟨j, hj, h⟩)
    · cases h
    · have hj' : j < 2 := hj
      have : j = 0 ∨ j = 1 := by omega
      rcases this with rfl | rfl <;> (revert h; decide)
  · refine ⟨?_, by decide⟩
    rintro (h | ⟨j, hj, h⟩)
    · cases h
    · have hj' : j < 1 := hj
      obtain rfl : j = 0 := by omega
      revert h; decide
theorem aw_rows_is : RowsIs 4 3 awX awR 0 := by
  have h := RowsIs.ok (W := 4) (n := 3) (X := awX) (by omega) (fun i hi => (aw_good i hi).1) (fun i hi => (aw_good i hi).2)
  have e : rowsTo 4 awX 3 = awR := by decide
  rw [e] at h
  exact h
def awS : ByteArray := ⟨#[98, 97, 115, 105, 110, 32, 118, 111, 108, 117, 109, 101, 32, 45, 49, 50]⟩
def awL : ByteArray := ⟨#[98, 97, 115, 105, 110, 32, 118, 111, 108, 117, 109, 101]⟩
theorem aw_read_is : RdIs awS awL (-12) 0 := by
  have hc : Canon (awS.extract (12 + 1) awS.size).data.toList (-12) := by
    refine ⟨?_, by omega, by omega⟩
    rw [itoa_neg' (by omega), show (-12 : Int).natAbs = 12 from rfl, Lib.decDigits_two (by omega) (by omega)]
    decide
  exact ⟨.inr (.inr ⟨by decide, 12, by omega, by decide, by decide, .inl ⟨⟨-12, hc, rfl⟩, by decide, rfl⟩⟩)⟩
end Go.Proofs.YtlccoabcialppaaDoor

/- The reference's text of a table, where the texts of its numbers are known. -/
import Derived.Test.YthbdeaglncoanaaGreatDoorDec
import Derived.Test.YthbdeaglncoanaaGreatDoorTabTwo
import Derived.Deep.QuietTactic
import Derived.BigQuiet
namespace Go.Proofs.YthbdeaglncoanaaGreatDoor
open Go.RowKit
set_option linter.unusedVariables false
set_option linter.unusedSimpArgs false

/-- The text of the first knots. -/
def tt (tx : Int → ByteArray) (X Y : Nat → Int) : Nat → ByteArray
  | 0 => ⟨#[]⟩
  | i + 1 => (((if 0 < i then tt tx X Y i ++ ⟨#[32]⟩ else tt tx X Y i) ++ tx (X i)) ++ ⟨#[58]⟩) ++ tx (Y i)
theorem tt_size {tx : Int → ByteArray} {X Y : Nat → Int} {n : Nat} (h : ∀ k, k < n → (tx (X k)).size ≤ 30 ∧ (tx (Y k)).size ≤ 30) : ∀ i, i ≤ n → (tt tx X Y i).size ≤ 62 * i := by
  intro i
  induction i with
  | zero => intro _; exact Nat.le_refl _
  | succ i ih =>
    intro hi
    have := ih (by omega)
    have h1 := h i (by omega)
    simp only [tt]
    split <;> simp only [ByteArray.size_append] <;> (show _ ≤ _; simp only [show (⟨#[32]⟩ : ByteArray).size = 1 from rfl, show (⟨#[58]⟩ : ByteArray).size = 1 from rfl]; omega)

set_option maxHeartbeats 2000000 in
theorem rtext (b off n c : Nat) (X Y : Nat → Int) (tx : Int → ByteArray) (w : World) (h2 : n ≤ 100) (ht : TabAt w b off n X Y)
    (hX : ∀ k, k < n → ∀ w, Calls Tryz.prog 54 #[.int .i64 (X k)] w fun e w' => e = .returned (.string (tx (X k))) ∧ w = w')
    (hY : ∀ k, k < n → ∀ w, Calls Tryz.prog 54 #[.int .i64 (Y k)] w fun e w' => e = .returned (.string (tx (Y k))) ∧ w = w')
    (hs : ∀ k, k < n → (tx (X k)).size ≤ 30 ∧ (tx (Y k)).size ≤ 30) :
    Calls Tryz.prog 32 #[.slice (some ⟨b, off, none⟩) n c] w fun e w' => e = .returned (.string (tt tx X Y n)) ∧ Below w.heap.size w w' := by
  have HT := Lib.hid ht
  have H2 := Lib.hid h2
  have HX := Lib.hid hX
  have HY := Lib.hid hY
  have HS := Lib.hid hs
  have hb := ht.1
  clear ht h2 hX hY hs
  go_enter Tryz.func32, Tryz.ntmps32
  go_wp2_with fail
  go_loopw [3, 4] (fun u v wr => ∃ i : Nat, Hid (i ≤ n) ∧ u = .string (tt tx X Y i) ∧ v = .int .i64 i ∧ Hid (Below w.heap.size w wr)) (fun _ v _ => n - (intOf v).toNat)
  case atStart => exact ⟨0, Nat.zero_le _, rfl, rfl, Below.refl _ _⟩
  case round =>
    obtain ⟨i, Hi, rfl, rfl, HW⟩ := hrel
    by_cases hlt : i < n
    · have T0 : decide ((i : Int) < (n : Int)) = true := by simp <;> omega
      have T0' : decide (i < n) = true := decide_eq_true hlt
      obtain ⟨i', hi'⟩ : ∃ z, z = i + 1 := ⟨_, rfl⟩
      have x0 : IntKind.i64.wrap ((i : Int) + 1) = (i' : Int) := by have := H2.out; rw [IntKind.wrap_i64]; omega
      have HI' : Hid (i' ≤ n) := by show i' ≤ n; omega
      have HMS : Hid (n - (intOf (Value.int .i64 (i' : Int))).toNat < n - (intOf (Value.int .i64 (i : Int))).toNat) := by show _ < _; simp [intOf]; omega
      have HTr := HT.out.below HW.out hb
      have hx1 := (HTr.2 i hlt).1
      have hy1 := (HTr.2 i hlt).2
      have k0 : (0 : Int) ≤ (i : Int) := by omega
      have k1 : (i : Int) < (n : Int) := by omega
      have CX := Lib.hid (HX.out i hlt)
      have CY := Lib.hid (HY.out i hlt)
      have hsz := tt_size HS.out i (by omega)
      have hs1 := HS.out i hlt
      have h2 := H2.out
      have HE : Hid (tt tx X Y i' = (((if 0 < i then tt tx X Y i ++ ⟨#[32]⟩ else tt tx X Y i) ++ tx (X i)) ++ ⟨#[58]⟩) ++ tx (Y i)) := by rw [hi']; exact rfl
      obtain ⟨s, hs⟩ : ∃ z, z = tt tx X Y i := ⟨_, rfl⟩
      obtain ⟨a, ha⟩ : ∃ z, z = tx (X i) := ⟨_, rfl⟩
      obtain ⟨d, hd⟩ : ∃ z, z = tx (Y i) := ⟨_, rfl⟩
      rw [← hs, ← ha, ← hd] at HE
      rw [← ha] at CX
      rw [← hd] at CY
      rw [← hs]
      rw [← ha, ← hd] at hs1
      rw [← hs] at hsz
      have z1 : (s.size : Int) ≤ 8388608 := by omega
      have z2 : (a.size : Int) ≤ 8388608 := by omega
      have z3 : (d.size : Int) ≤ 8388608 := by omega
      by_cases h0 : 0 < i
      · have t1 : decide (0 < i) = true := decide_eq_true h0
        rw [if_pos h0] at HE
        have z0 : ((s ++ ⟨#[32]⟩ : ByteArray).size : Int) ≤ 8388608 := by rw [ByteArray.size_append, show (⟨#[32]⟩ : ByteArray).size = 1 from rfl]; omega
        generalize hr : (s ++ ⟨#[32]⟩ : ByteArray) = r at *
        have z4 : ((r ++ a : ByteArray).size : Int) ≤ 8388608 := by rw [ByteArray.size_append, ← hr, ByteArray.size_append, show (⟨#[32]⟩ : ByteArray).size = 1 from rfl]; omega
        have z5 : (((r ++ a) ++ ⟨#[58]⟩ : ByteArray).size : Int) ≤ 8388608 := by rw [ByteArray.size_append, ByteArray.size_append, ← hr, ByteArray.size_append, show (⟨#[32]⟩ : ByteArray).size = 1 from rfl, show (⟨#[58]⟩ : ByteArray).size = 1 from rfl]; omega
        clear hi' h0 hs ha hd hsz hs1 HTr h2 hlt
        go_wp2_with fail
        go_quiet ((go_at_call 54; first | (with_reducible exact quiet_left (CX.out _)) | (with_reducible exact quiet_left (CY.out _))))
        go_wp2_with fail
        go_roundw
        case rel => exact ⟨i', HI', by rw [HE.out], rfl, below_drewN HW.out _⟩
        case measure => exact HMS.out
      · have t1 : decide (0 < i) = false := decide_eq_false h0
        rw [if_neg h0] at HE
        have z4 : ((s ++ a : ByteArray).size : Int) ≤ 8388608 := by rw [ByteArray.size_append]; omega
        have z5 : (((s ++ a) ++ ⟨#[58]⟩ : ByteArray).size : Int) ≤ 8388608 := by rw [ByteArray.size_append, ByteArray.size_append, show (⟨#[58]⟩ : ByteArray).size = 1 from rfl]; omega
        clear hi' h0 hs ha hd hsz hs1 HTr h2 hlt
        go_wp2_with fail
        go_quiet ((go_at_call 54; first | (with_reducible exact quiet_left (CX.out _)) | (with_reducible exact quiet_left (CY.out _))))
        go_wp2_with fail
        go_roundw
        case rel => exact ⟨i', HI', by rw [HE.out], rfl, below_drewN HW.out _⟩
        case measure => exact HMS.out
    · have e : i = n := by have := Hi.out; omega
      subst e
      have T0' : decide (i < i) = false := decide_eq_false (Nat.lt_irrefl i)
      clear hlt
      go_wp2_with fail
      go_ret
      exact ⟨rfl, HW.out⟩
end Go.Proofs.YthbdeaglncoanaaGreatDoor

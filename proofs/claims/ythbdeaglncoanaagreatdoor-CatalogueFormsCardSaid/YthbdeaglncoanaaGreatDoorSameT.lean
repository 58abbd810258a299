/- Equal tables are the same, by the reference. -/
import Derived.Test.YthbdeaglncoanaaGreatDoorRefL
namespace Go.Proofs.YthbdeaglncoanaaGreatDoor
open Go.RowKit
set_option linter.unusedVariables false
set_option linter.unusedSimpArgs false

set_option maxHeartbeats 1000000 in
theorem rsame_gen (b b' off off' n c c' : Nat) (X Y : Nat → Int) (w : World) (h2 : n ≤ 100) (ht : TabAt w b off n X Y) (ht' : TabAt w b' off' n X Y) :
    Calls Tryz.prog 33 #[.slice (some ⟨b, off, none⟩) n c, .slice (some ⟨b', off', none⟩) n c'] w fun e w' => e = .returned (.bool true) ∧ Below w.heap.size w w' := by
  have HT := Lib.hid ht
  have HT' := Lib.hid ht'
  have H2 := Lib.hid h2
  have hb := ht.1
  have hb' := ht'.1
  clear ht ht' h2
  go_enter Tryz.func33, Tryz.ntmps33
  go_wp2_with fail
  go_loopw [5] (fun u wr => ∃ i : Nat, Hid (i ≤ n) ∧ u = .int .i64 i ∧ Hid (Below w.heap.size w wr)) (fun u _ => n - (intOf u).toNat)
  case atStart => exact ⟨0, Nat.zero_le _, rfl, Below.refl _ _⟩
  case round =>
    obtain ⟨i, Hi, rfl, HW⟩ := hrel
    by_cases hlt : i < n
    · have T0 : decide ((i : Int) < (n : Int)) = true := by simp <;> omega
      have T0' : decide (i < n) = true := decide_eq_true hlt
      obtain ⟨i', hi'⟩ : ∃ z, z = i + 1 := ⟨_, rfl⟩
      have x0 : IntKind.i64.wrap ((i : Int) + 1) = (i' : Int) := by have := H2.out; rw [IntKind.wrap_i64]; omega
      have HTr := Lib.hid (HT.out.below HW.out hb)
      have HTr' := Lib.hid (HT'.out.below HW.out hb')
      have hX := (HTr.out.2 i hlt).1
      have hY := (HTr.out.2 i hlt).2
      have hX' := (HTr'.out.2 i hlt).1
      have hY' := (HTr'.out.2 i hlt).2
      have HI' : Hid (i' ≤ n) := by show i' ≤ n; omega
      have HMS : Hid (n - (intOf (Value.int .i64 (i' : Int))).toNat < n - (intOf (Value.int .i64 (i : Int))).toNat) := by show _ < _; simp [intOf]; omega
      have k0 : (0 : Int) ≤ (i : Int) := by omega
      have k1 : (i : Int) < (n : Int) := by omega
      clear hi'
      go_wp2_with fail
      go_quiet (fail)
      go_wp2_with fail
      go_roundw
      case rel => exact ⟨i', HI', rfl, below_drewN HW.out _⟩
      case measure => exact HMS.out
    · obtain rfl : i = n := by have := Hi.out; omega
      have T0 : decide ((i : Int) < (i : Int)) = false := by simp
      go_wp2_with fail
      go_ret
      exact ⟨rfl, HW.out⟩

end Go.Proofs.YthbdeaglncoanaaGreatDoor

/- The reference's decimal text of small numbers. -/
import Derived.Test.YtpeelnjkppdkbaaLeaf
import Derived.Test.YtpeelnjkppdkbaaGcd
namespace Go.Proofs.Ytpeelnjkppdkbaa
open Go.RowKit
set_option linter.unusedVariables false
set_option linter.unusedSimpArgs false

/-- The text of one digit. -/
def dg (d : Nat) : ByteArray := Utf8.encode (((48 + d : Nat) : Int))
theorem dg_size (d : Nat) (hd : d < 10) : ((dg d).size : Int) ≤ 8388608 := by
  have : d = 0 ∨ d = 1 ∨ d = 2 ∨ d = 3 ∨ d = 4 ∨ d = 5 ∨ d = 6 ∨ d = 7 ∨ d = 8 ∨ d = 9 := by omega
  rcases this with rfl | rfl | rfl | rfl | rfl | rfl | rfl | rfl | rfl | rfl <;> decide
theorem rdec_one (d : Nat) (hd : d < 10) (w : World) : Calls Try.prog 54 #[.int .i64 (d : Int)] w fun e w' => e = .returned (.string (dg d)) ∧ w = w' := by
  have e1 : Int.tmod (d : Int) 10 = (d : Int) := (tmod_nat d 10).trans (by omega)
  have e1' : (d : Int) % 10 = (d : Int) := by omega
  obtain ⟨c, hc⟩ : ∃ c, c = 48 + d := ⟨_, rfl⟩
  have e2 : IntKind.i64.wrap (48 + (d : Int)) = (c : Int) := by rw [IntKind.wrap_i64]; omega
  have e3 : IntKind.i32.wrap (c : Int) = (c : Int) := by unfold IntKind.wrap; simp [IntKind.bits, IntKind.signed]; omega
  have t1 : decide ((d : Int) < 0) = false := by simp
  have t2 : decide ((10 : Int) ≤ (d : Int)) = false := decide_eq_false (by omega)
  unfold dg
  rw [← hc]
  clear hd hc
  go_enter Try.func54, Try.ntmps54
  go_wp2_with fail
  go_ret
  exact ⟨rfl, rfl⟩
theorem rdec_two (a b : Nat) (ha : 0 < a) (ha' : a < 10) (hb : b < 10) (w : World) : Calls Try.prog 54 #[.int .i64 ((10 * a + b : Nat) : Int)] w fun e w' => e = .returned (.string (dg a ++ dg b)) ∧ w = w' := by
  have S := Lib.hid fun w => rdec_one a ha' w
  obtain ⟨n, hn⟩ : ∃ n, n = 10 * a + b := ⟨_, rfl⟩
  rw [← hn]
  have e1 : Int.tmod (n : Int) 10 = (b : Int) := (tmod_nat n 10).trans (by omega)
  have e0 : Int.tdiv (n : Int) 10 = (a : Int) := (tdiv_nat n 10).trans (by omega)
  have e1' : (n : Int) % 10 = (b : Int) := by omega
  have e0' : (n : Int) / 10 = (a : Int) := by omega
  obtain ⟨c, hc⟩ : ∃ c, c = 48 + b := ⟨_, rfl⟩
  have e2 : IntKind.i64.wrap (48 + (b : Int)) = (c : Int) := by rw [IntKind.wrap_i64]; omega
  have e3 : IntKind.i32.wrap (c : Int) = (c : Int) := by unfold IntKind.wrap; simp [IntKind.bits, IntKind.signed]; omega
  have t1 : decide ((n : Int) < 0) = false := by simp
  have t2 : decide ((10 : Int) ≤ (n : Int)) = true := decide_eq_true (by omega)
  have e5 : dg b = Utf8.encode (c : Int) := by unfold dg; rw [hc]
  have z1 := dg_size a ha'
  have z2 := dg_size b hb
  rw [e5] at z2 ⊢
  generalize dg a = da at *
  generalize hdc : Utf8.encode (c : Int) = dc at *
  have e4 : IntKind.i64.wrap (a : Int) = (a : Int) := by rw [IntKind.wrap_i64]; omega
  clear ha ha' hb hc hn e5
  go_enter Try.func54, Try.ntmps54
  go_wp2_with (first | (go_at_call 54; (with_reducible refine (S.out _).mono ?_); rintro e w' ⟨rfl, rfl⟩))
  go_ret
  exact ⟨rfl, rfl⟩
end Go.Proofs.Ytpeelnjkppdkbaa

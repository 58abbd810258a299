/- The least number whose square is at least a sum of two squares; and the equality of two slices of knots. -/
import Derived.Test.YthbdeaglncoanaaGreatDoorCat
import Derived.Test.YthbdeaglncoanaaGreatDoorTab
namespace Go.Proofs.YthbdeaglncoanaaGreatDoor
open Go.RowKit
set_option linter.unusedVariables false
set_option linter.unusedSimpArgs false

/-- The root, rounded up. -/
def csq (n : Nat) : Nat := if Num.isq n * Num.isq n < n then Num.isq n + 1 else Num.isq n
set_option maxHeartbeats 1000000 in
theorem croot2 (s h : Nat) (hs : s ≤ 65536) (hh : h ≤ 65536) (w : World) :
    Calls Tryz.prog 39 #[.agg #[.int .u64 (hi64 (s * s)), .int .u64 (lo64 (s * s))], .int .i64 (h : Int)] w fun e w' => e = .returned (.int .i64 (csq (s * s + h * h) : Int)) ∧ Below w.heap.size w w' := by
  have q1 : s * s ≤ 65536 * 65536 := Nat.mul_le_mul hs hs
  have q2 : h * h ≤ 65536 * 65536 := Nat.mul_le_mul hh hh
  obtain ⟨N, hN⟩ : ∃ N, N = s * s + h * h := ⟨_, rfl⟩
  obtain ⟨H, hH⟩ : ∃ N, N = h * h := ⟨_, rfl⟩
  have e1 : IntKind.u64.wrap (h : Int) = (h : Int) := Half.wrapN _ (by omega)
  have e2 : IntKind.u64.wrap ((h : Int) * (h : Int)) = (H : Int) := by rw [Half.mulN, hH]; exact Half.wrapN _ (by omega)
  have e3 : IntKind.u64.wrap (lo64 (s * s) + (H : Int)) = (N : Int) := by
    have : lo64 (s * s) = ((s * s : Nat) : Int) := by unfold lo64; congr 1; omega
    rw [this, Half.addN, hH, hN]; exact Half.wrapN _ (by omega)
  obtain ⟨r, hr⟩ : ∃ r, r = Num.isq N := ⟨_, rfl⟩
  obtain ⟨r1, r2⟩ := Num.isq_spec N
  have rb : r < 1048576 := by rw [hr]; exact Num.isq_lt (by omega)
  have S1 := Lib.hid fun w => croot N (by omega) w
  have z1 : hi64 N = 0 := by unfold hi64; omega
  have z2 : lo64 N = (N : Int) := by unfold lo64; omega
  rw [z1, z2, ← hr] at S1
  have e4 : IntKind.u64.wrap (r : Int) = (r : Int) := Half.wrapN _ (by omega)
  obtain ⟨Q, hQ⟩ : ∃ Q, Q = r * r := ⟨_, rfl⟩
  have e5 : IntKind.u64.wrap ((r : Int) * (r : Int)) = (Q : Int) := by
    rw [Half.mulN, hQ]; exact Half.wrapN _ (by have := Nat.mul_le_mul (Nat.le_of_lt rb) (Nat.le_of_lt rb); omega)
  have e6 : IntKind.i64.wrap ((r : Int) + 1) = ((r + 1 : Nat) : Int) := by rw [IntKind.wrap_i64]; omega
  obtain ⟨c, hc⟩ : ∃ c, c = csq (s * s + h * h) := ⟨_, rfl⟩
  rw [← hc]
  have hc' : c = if Q < N then r + 1 else r := by rw [hc, ← hN, hQ, hr]; rfl
  by_cases ht : Q < N
  · rw [if_pos ht] at hc'
    subst hc'
    have T : decide (Q < N) = true := decide_eq_true ht
    clear hs hh q1 q2 hN hH hr r1 r2 rb z1 z2 hQ hc ht
    go_enter Tryz.func39, Tryz.ntmps39
    go_wp2_with (first | (go_at_call 38; (with_reducible refine (S1.out _).mono ?_); rintro e w1 ⟨rfl, hb1⟩; obtain ⟨hc1, hf1⟩ := bcell hb1; have hz1 := hb1.size; (try simp at hz1); (try simp only [heap_drew, World.heap_drewN] at hz1); (try simp only [heap_drew, World.heap_drewN] at hc1); (try simp only [heap_drew, World.heap_drewN] at hf1); (try have hs1 := Nat.lt_of_succ_le hz1); (try have hs2 := Nat.lt_of_succ_lt hs1); (try have y0 : w.heap.size < w1.heap.size := by omega); (try have y1 : w.heap.size + 1 < w1.heap.size := by omega); (try have y2 : w.heap.size + 2 < w1.heap.size := by omega)))
    go_ret
    refine ⟨rfl, ?_⟩
    (repeat' (first | assumption | exact Below.refl _ _ | exact Below.size (by assumption) | (refine Below.setCell ?_ ?_ _) | (refine Below.alloc ?_ ?_ _) | (refine Below.drew ?_) | (refine below_drewN ?_ _) | (refine Below.trans ?_ (Below.mono ‹Below _ _ _› ?_)) | omega | (simp; done) | (simp; omega) | (simp at *; omega)))
  · rw [if_neg ht] at hc'
    subst hc'
    have T : decide (Q < N) = false := decide_eq_false ht
    clear hs hh q1 q2 hN hH hr r1 r2 rb z1 z2 hQ hc ht
    go_enter Tryz.func39, Tryz.ntmps39
    go_wp2_with (first | (go_at_call 38; (with_reducible refine (S1.out _).mono ?_); rintro e w1 ⟨rfl, hb1⟩; obtain ⟨hc1, hf1⟩ := bcell hb1; have hz1 := hb1.size; (try simp at hz1); (try simp only [heap_drew, World.heap_drewN] at hz1); (try simp only [heap_drew, World.heap_drewN] at hc1); (try simp only [heap_drew, World.heap_drewN] at hf1); (try have hs1 := Nat.lt_of_succ_le hz1); (try have hs2 := Nat.lt_of_succ_lt hs1); (try have y0 : w.heap.size < w1.heap.size := by omega); (try have y1 : w.heap.size + 1 < w1.heap.size := by omega); (try have y2 : w.heap.size + 2 < w1.heap.size := by omega)))
    go_ret
    refine ⟨rfl, ?_⟩
    (repeat' (first | assumption | exact Below.refl _ _ | exact Below.size (by assumption) | (refine Below.setCell ?_ ?_ _) | (refine Below.alloc ?_ ?_ _) | (refine Below.drew ?_) | (refine below_drewN ?_ _) | (refine Below.trans ?_ (Below.mono ‹Below _ _ _› ?_)) | omega | (simp; done) | (simp; omega) | (simp at *; omega)))

set_option maxHeartbeats 1000000 in
theorem sequal (b off c b' off' c' n : Nat) (X Y : Nat → Int) (w : World) (hn : n ≤ 1000) (ht : TabAt w b off n X Y) (ht' : TabAt w b' off' n X Y) :
    Calls Tryz.prog 17 #[.slice (some ⟨b, off, none⟩) n c, .slice (some ⟨b', off', none⟩) n c'] w fun e w' => e = .returned (.bool true) ∧ Below w.heap.size w w' := by
  have HT := Lib.hid ht
  have HT' := Lib.hid ht'
  have hb := ht.1
  have hb' := ht'.1
  clear ht ht'
  go_enter Tryz.func17, Tryz.ntmps17
  go_wp2
  go_loopw [13] (fun i wr => ∃ k : Nat, k ≤ n ∧ i = .int .i64 k ∧ Below w.heap.size w wr) (fun i _ => n - (intOf i).toNat)
  case atStart => exact ⟨0, Nat.zero_le _, rfl, Below.refl _ _⟩
  case round =>
    obtain ⟨k, hk, rfl, hbw⟩ := hrel
    by_cases hlt : k < n
    · have c1 := ((HT.out.below hbw hb).2 k hlt).1
      have c2 := ((HT.out.below hbw hb).2 k hlt).2
      have c3 := ((HT'.out.below hbw hb').2 k hlt).1
      have c4 := ((HT'.out.below hbw hb').2 k hlt).2
      go_wp2
      go_quiet (fail)
      go_wp2
      go_roundw
      case rel => exact ⟨k + 1, by omega, by go_num, by (repeat' (first | assumption | exact Below.refl _ _ | exact Below.size (by assumption) | (refine Below.setCell ?_ ?_ _) | (refine Below.alloc ?_ ?_ _) | (refine Below.drew ?_) | (refine below_drewN ?_ _) | (refine Below.trans ?_ (Below.mono ‹Below _ _ _› ?_)) | omega | (simp; done) | (simp; omega) | (simp at *; omega)))⟩
      case measure => simp [intOf]; omega
    · obtain rfl : k = n := by omega
      go_wp2
      go_ret
      exact ⟨rfl, hbw⟩
end Go.Proofs.YthbdeaglncoanaaGreatDoor

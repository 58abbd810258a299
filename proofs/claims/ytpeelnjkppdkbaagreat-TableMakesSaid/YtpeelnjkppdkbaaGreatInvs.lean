/- Least and Most, by the package and by the reference: all ways joined. -/
import Derived.Test.YtpeelnjkppdkbaaGreatEnds
import Derived.Test.YtpeelnjkppdkbaaGreatRefN
namespace Go.Proofs.YtpeelnjkppdkbaaGreat
open Go.RowKit
set_option linter.unusedVariables false
set_option linter.unusedSimpArgs false

def LeastIs (X Y : Nat → Int) (m : Nat) (y v e : Int) : Prop := (Val.LeastAt X Y m y v ∧ e = 0) ∨ (Y m < y ∧ v = 0 ∧ e = 12)
def MostIs (X Y : Nat → Int) (m : Nat) (y v e : Int) : Prop := (Val.MostAt X Y m y v ∧ e = 0) ∨ (y < Y 0 ∧ v = 0 ∧ e = 12)
def isOK (e : Int) : Bool := decide (e = 0)

/-- The package alone. -/
theorem least_t (m : Nat) (X Y : Nat → Int) (y : Int) (hv : TabOK (m + 1) X Y) : ∃ v e, LeastIs X Y m y v e ∧
    ∀ (b off c : Nat) (w : World), TabAt w b off (m + 1) X Y →
      (Calls Tryz.prog 16 #[.slice (some ⟨b, off, none⟩) (m + 1 : Nat) c, .int .i64 y] w fun e' w' => e' = .returned (.tuple #[.int .i64 v, .int .i64 e]) ∧ Below w.heap.size w w') := by
  have ha := asc_of hv
  obtain ⟨k, hk⟩ := first_ex (fun j => decide (y ≤ Y j)) (m + 1)
  rcases Nat.lt_or_ge k (m + 1) with h1 | h1
  · have hy := of_decide_eq_true (hk.2.2 h1)
    rcases Nat.eq_zero_or_pos k with h0 | h0
    · subst h0
      exact ⟨X 0, 0, .inl ⟨.inl ⟨hy, rfl⟩, rfl⟩, fun b off c w ht => tleast_first b off (m + 1) c X Y y w hv ht hk⟩
    · obtain ⟨p, rfl⟩ : ∃ p, k = p + 1 := ⟨k - 1, by omega⟩
      have hyp := of_decide_eq_false (hk.2.1 p (by omega))
      have hap := ha p (by omega)
      obtain ⟨T, eT⟩ : ∃ U : Nat, y - Y p = (U : Int) := ⟨(y - Y p).toNat, by omega⟩
      obtain ⟨D, eD⟩ : ∃ U : Nat, X (p + 1) - X p = (U : Int) := ⟨(X (p + 1) - X p).toNat, by omega⟩
      obtain ⟨U, eU⟩ : ∃ U : Nat, Y (p + 1) - Y p = (U : Int) := ⟨(Y (p + 1) - Y p).toNat, by omega⟩
      have hU : 0 < U := by omega
      have e : X p + (((T * D + U - 1) / U : Nat) : Int) = X p + ((y - Y p) * (X (p + 1) - X p) + (Y (p + 1) - Y p) - 1) / (Y (p + 1) - Y p) := by
        rw [eT, eD, eU, Int.natCast_ediv, ← Int.natCast_mul]
        congr 2
        omega
      exact ⟨_, 0, .inl ⟨.inr ⟨p, by omega, by omega, hy, rfl⟩, rfl⟩, fun b off c w ht =>
        tleast_mid b off (m + 1) c p T D U X Y y w hv ht h1 hk eT eD eU (by omega) hU _ e.symm⟩
  · have : k = m + 1 := by have := hk.1; omega
    subst this
    have hy := of_decide_eq_false (hk.2.1 m (by omega))
    exact ⟨0, 12, .inr ⟨by omega, rfl, rfl⟩, fun b off c w ht => tleast_none b off (m + 1) c X Y y w hv ht hk⟩
theorem most_t (m : Nat) (X Y : Nat → Int) (y : Int) (hv : TabOK (m + 1) X Y) : ∃ v e, MostIs X Y m y v e ∧
    ∀ (b off c : Nat) (w : World), TabAt w b off (m + 1) X Y →
      (Calls Tryz.prog 17 #[.slice (some ⟨b, off, none⟩) (m + 1 : Nat) c, .int .i64 y] w fun e' w' => e' = .returned (.tuple #[.int .i64 v, .int .i64 e]) ∧ Below w.heap.size w w') := by
  have ha := asc_of hv
  obtain ⟨k, hk⟩ := first_ex (fun j => decide (y < Y j)) (m + 1)
  rcases Nat.lt_or_ge k (m + 1) with h1 | h1
  · have hy := of_decide_eq_true (hk.2.2 h1)
    rcases Nat.eq_zero_or_pos k with h0 | h0
    · subst h0
      exact ⟨0, 12, .inr ⟨hy, rfl, rfl⟩, fun b off c w ht => tmost_first b off (m + 1) c X Y y w hv ht hk⟩
    · obtain ⟨p, rfl⟩ : ∃ p, k = p + 1 := ⟨k - 1, by omega⟩
      have hyp := of_decide_eq_false (hk.2.1 p (by omega))
      have hy0 := of_decide_eq_false (hk.2.1 0 (by omega))
      have hap := ha p (by omega)
      have hB : BInv Y y (m + 1) p := .inr ⟨p, by omega, rfl, by omega, fun j hj hj' => by have := (ha.mono (by omega : j ≤ m) (by omega : p + 1 ≤ j)).2; omega⟩
      obtain ⟨T, eT⟩ : ∃ U : Nat, y - Y p = (U : Int) := ⟨(y - Y p).toNat, by omega⟩
      obtain ⟨D, eD⟩ : ∃ U : Nat, X (p + 1) - X p = (U : Int) := ⟨(X (p + 1) - X p).toNat, by omega⟩
      obtain ⟨U, eU⟩ : ∃ U : Nat, Y (p + 1) - Y p = (U : Int) := ⟨(Y (p + 1) - Y p).toNat, by omega⟩
      have hU : 0 < U := by omega
      have e : X p + ((T * D / U : Nat) : Int) = X p + ((y - Y p) * (X (p + 1) - X p)) / (Y (p + 1) - Y p) := by
        rw [eT, eD, eU, Int.natCast_ediv, ← Int.natCast_mul]
      exact ⟨_, 0, .inl ⟨.inr ⟨p, by omega, by omega, hy, rfl⟩, rfl⟩, fun b off c w ht =>
        tmost_mid b off (m + 1) c p T D U X Y y w hv ht h1 hk eT eD eU (by omega) hU _ e.symm⟩
  · have : k = m + 1 := by have := hk.1; omega
    subst this
    have hy := of_decide_eq_false (hk.2.1 m (by omega))
    have hy0 := of_decide_eq_false (hk.2.1 0 (by omega))
    have hB : BInv Y y (m + 1) m := .inr ⟨m, by omega, rfl, by omega, fun j hj hj' => absurd hj' (by omega)⟩
    exact ⟨X m, 0, .inl ⟨.inl ⟨by omega, rfl⟩, rfl⟩, fun b off c w ht => tmost_none b off (m + 1) c m X Y y w hv ht hk rfl⟩
end Go.Proofs.YtpeelnjkppdkbaaGreat

/- A table that is moved has its values there; a part of a table is a table: plain mathematics. -/
import Derived.Test.YtpeelnjkppdkbaaCutT
import Derived.Test.YtpeelnjkppdkbaaSumQ
namespace Go.Proofs.Ytpeelnjkppdkbaa
set_option linter.unusedVariables false
set_option linter.unusedSimpArgs false

theorem val_shift (X Y : Nat → Int) (dx dy : Int) : ∀ m x, Val.val (fun k => X k + dx) (fun k => Y k + dy) m (x + dx) = Val.val X Y m x + dy := by
  intro m
  induction m with
  | zero => intro x; rfl
  | succ m ih =>
    intro x
    simp only [Val.val]
    by_cases h1 : X (m + 1) ≤ x
    · rw [if_pos h1, if_pos (by omega)]
    · rw [if_neg h1, if_neg (by omega)]
      by_cases h2 : X m ≤ x
      · rw [if_pos h2, if_pos (by omega)]
        show (Y m + dy) + ((Y (m + 1) + dy) - (Y m + dy)) * ((x + dx) - (X m + dx)) / ((X (m + 1) + dx) - (X m + dx)) = (Y m + (Y (m + 1) - Y m) * (x - X m) / (X (m + 1) - X m)) + dy
        rw [show Y (m + 1) + dy - (Y m + dy) = Y (m + 1) - Y m by omega, show x + dx - (X m + dx) = x - X m by omega, show X (m + 1) + dx - (X m + dx) = X (m + 1) - X m by omega]
        omega
      · rw [if_neg h2, if_neg (by omega)]
        exact ih x
theorem tab_shift {n : Nat} {X Y : Nat → Int} {dx dy : Int} (hv : TabOK n X Y) (hX : ∀ k, k < n → inB (X k + dx)) (hY : ∀ k, k < n → inB (Y k + dy)) : TabOK n (fun k => X k + dx) (fun k => Y k + dy) :=
  ⟨hv.1, hv.2.1, fun k hk => ⟨hX k hk, hY k hk, fun h0 => by have := (hv.2.2 k hk).2.2 h0; exact ⟨by show X (k - 1) + dx < X k + dx; omega, by show Y (k - 1) + dy ≤ Y k + dy; omega⟩⟩⟩
end Go.Proofs.Ytpeelnjkppdkbaa

/- The package's First. -/
import Derived.Test.YtigocjhmgmhocaaGreatDoorAcm
import Derived.Test.YtigocjhmgmhocaaGreatDoorLft
import Derived.Deep.RegionLaw
namespace Go.Proofs.YtigocjhmgmhocaaGreatDoor
open Go.RowKit Go.Maps
set_option linter.unusedVariables false
set_option linter.unusedSimpArgs false

/-- What the loops over events keep: the accounts, and the frame. -/
def FMem (w wr : World) (b : Nat) (Y T : Nat → Int) (i : Nat) : Prop := AMem wr b Y T i ∧ w.heap.size ≤ b ∧ Below w.heap.size w wr
theorem FMem.call {w wr w' : World} {b : Nat} {Y T : Nat → Int} {i : Nat} (h : FMem w wr b Y T i) (hb : Below wr.heap.size wr w') : FMem w w' b Y T i := ⟨h.1.call hb, h.2.1, below_step h.2.2 hb⟩
theorem FMem.drew {w wr : World} {b : Nat} {Y T : Nat → Int} {i : Nat} (h : FMem w wr b Y T i) : FMem w wr.drew b Y T i := h.call (by (repeat' (first | assumption | exact Below.refl _ _ | exact Below.size (by assumption) | (refine Below.setCell ?_ ?_ _) | (refine Below.alloc ?_ ?_ _) | (refine Below.drew ?_) | (refine below_drewN ?_ _) | (refine Below.trans ?_ (Below.mono ‹Below _ _ _› ?_)) | omega | (simp; done) | (simp; omega) | (simp at *; omega))))
/-- One more event. -/
theorem FMem.put {w wr : World} {b : Nat} {Y T : Nat → Int} {i : Nat} (h : FMem w wr b Y T i) (hi : i ≤ 40) (hy : 0 ≤ Y i ∧ Y i ≤ 9999) (hT : ∀ j, j ≤ i → 0 ≤ T j) :
    ∃ w', (Instr.mapUpdate 75 (.map (some b)) (.int .i64 (Y i)) (.agg #[.int .i64 ((cnt Y (Y i) i : Int) + 1), .int .i64 (cutS (cutS (sm Y T (Y i) i) + cutS (T i)))])).run Tryz.prog wr = .ok () w' ∧ FMem w w' b Y T (i + 1) ∧ ∀ (g : Nat) (t : TypeId) (cs : Array Value), g ≠ b → Blk wr g t cs → Blk w' g t cs := by
  obtain ⟨w', hr, hA, hg⟩ := h.1.put hi hy hT
  refine ⟨w', hr, ⟨hA, h.2.1, ?_⟩, fun g t cs hne hb => hb.grown hg (by simpa using hne)⟩
  exact h.2.2.grown hg (by have := h.2.2.size; omega) (fun k hk => by injection hk with hk; have := h.2.1; omega)
/-- A permit is broken behind an event. -/
noncomputable def brk (Y T : Nat → Int) (ev vol tot : Int) (i : Nat) : Bool := decide (ev < (cnt Y (Y i) (i + 1) : Int)) || (decide (tot < cutS (sm Y T (Y i) (i + 1))) || decide (vol < T i))
theorem first_ex39 (p : Nat → Bool) : ∀ n, (∃ K, K < n ∧ p K = true ∧ ∀ j, j < K → p j = false) ∨ (∀ j, j < n → p j = false) := by
  intro n
  induction n with
  | zero => exact .inr fun j hj => absurd hj (by omega)
  | succ n ih =>
    rcases ih with ⟨K, h1, h2, h3⟩ | h
    · exact .inl ⟨K, by omega, h2, h3⟩
    · cases hp : p n with
      | true => exact .inl ⟨n, by omega, hp, h⟩
      | false =>
        refine .inr fun j hj => ?_
        rcases Nat.lt_or_ge j n with g | g
        · exact h j g
        · obtain rfl : j = n := by omega
          exact hp
/-- What First answers. -/
structure FirstIs (ok : Prop) (E : Evs) (n : Nat) (from_ sec ev vol tot k er : Int) : Prop where
  out : (yErr ok E n from_ sec = er ∧ er ≠ 0 ∧ k = 0) ∨ (yErr ok E n from_ sec = 0 ∧ ((∃ K : Nat, K < n ∧ brk (yrs E from_ sec) E.Tot ev vol tot K = true ∧ (∀ j, j < K → brk (yrs E from_ sec) E.Tot ev vol tot j = false) ∧ k = K ∧ er = 0) ∨ ((∀ j, j < n → brk (yrs E from_ sec) E.Tot ev vol tot j = false) ∧ k = 0 ∧ er = 12)))
theorem FirstIs.ex (ok : Prop) (E : Evs) (n : Nat) (from_ sec ev vol tot : Int) : ∃ k er, FirstIs ok E n from_ sec ev vol tot k er := by
  by_cases h : yErr ok E n from_ sec = 0
  · rcases first_ex39 (brk (yrs E from_ sec) E.Tot ev vol tot) n with ⟨K, h1, h2, h3⟩ | h1
    · exact ⟨K, 0, ⟨.inr ⟨h, .inl ⟨K, h1, h2, h3, rfl, rfl⟩⟩⟩⟩
    · exact ⟨0, 12, ⟨.inr ⟨h, .inr ⟨h1, rfl, rfl⟩⟩⟩⟩
  · exact ⟨0, _, ⟨.inl ⟨rfl, h, rfl⟩⟩⟩
end Go.Proofs.YtigocjhmgmhocaaGreatDoor

/- Merged texts of these proofs: WyP, Ctn. -/
import Derived.Test.YtghefgifhebniaaGreatDoorMgD
import Derived.Test.YtghefgifhebniaaGreatDoorMgC
import Derived.Test.YtghefgifhebniaaGreatDoorShelf
import Derived.Test.YtghefgifhebniaaGreatDoorMgA
import Derived.Test.YtghefgifhebniaaGreatDoorStrs
namespace Go.Proofs.YtghefgifhebniaaGreatDoor
set_option linter.unusedVariables false
set_option linter.unusedSimpArgs false
theorem wayP_ahead {X Y : Nat → Int} {m k : Nat} {z : Int} (hk : k < m) (h : WayP X Y m (Y k) z) : WayP X Y m (X k) z := by
 have h0 : WayP X Y m (X k) (Y k) := .src ⟨k, hk, rfl, rfl⟩
 refine h.closed (P := fun z => WayP X Y m (X k) z) (fun z ⟨j, hj, e1, e2⟩ => ?_) (fun j hj h => .step hj h)
 rw [← e2]
 exact .step hj (by rw [e1]; exact h0)
theorem wayP_turn {X Y : Nat → Int} {m : Nat} {a b : Int} (h : WayP X Y m a b) : WayP Y X m b a := by
 refine h.closed (P := fun z => WayP Y X m z a) (fun z ⟨j, hj, e1, e2⟩ => .src ⟨j, hj, e2, e1⟩) (fun j hj h => ?_)
 exact wayP_ahead (X := Y) (Y := X) hj h
theorem wayP_dual {X Y : Nat → Int} {m : Nat} {a b : Int} : WayP X Y m a b ↔ WayP Y X m b a := ⟨wayP_turn, wayP_turn⟩
theorem mem_nmL {D : Nds} {o : Nat → Bool} {n : Nat} {s : ByteArray} : s ∈ nmL D o n ↔ ∃ v, v < n ∧ o v = true ∧ D.Nm v = s := by
 unfold nmL
 simp only [List.mem_map, List.mem_filter, List.mem_range]
 constructor
 · rintro ⟨v, ⟨h1, h2⟩, h3⟩; exact ⟨v, h1, h2, h3⟩
 · rintro ⟨v, h1, h2, h3⟩; exact ⟨v, ⟨h1, h2⟩, h3⟩
theorem netP_inj {D : Nds} {K : Lks} {n m i j : Nat} (h : netP D n K m) (hi : i < n) (hj : j < n) (e : D.Nm i = D.Nm j) : i = j := by
 have h1 := (h.2.2.1 i hi).2
 have h2 := (h.2.2.1 j hj).2
 rw [e] at h1
 omega
theorem mem_nmL_at {D : Nds} {K : Lks} {o : Nat → Bool} {n m j : Nat} (h : netP D n K m) (hj : j < n) : D.Nm j ∈ nmL D o n ↔ o j = true := by
 rw [mem_nmL]
 constructor
 · rintro ⟨v, h1, h2, h3⟩
   rw [← netP_inj h h1 hj h3]; exact h2
 · intro h2; exact ⟨j, hj, h2, rfl⟩
theorem way_dual {D : Nds} {K : Lks} {X Y : Nat → Int} {n m l a b : Nat} (h : netP D n K l) (ha : a < n) (hb : b < n) : D.Nm b ∈ nmL D (wayB Y X m (a : Int)) n ↔ D.Nm a ∈ nmL D (wayB X Y m (b : Int)) n := by
 rw [mem_nmL_at h hb, mem_nmL_at h ha, wayB_iff, wayB_iff]
 exact wayP_dual
end Go.Proofs.YtghefgifhebniaaGreatDoor
namespace Go.Proofs.YtghefgifhebniaaGreatDoor
open Go.RowKit Go.Sort
set_option linter.unusedVariables false
set_option linter.unusedSimpArgs false
theorem boolOf_eq2 {p : Prop} {b : Bool} (h : b = true ↔ p) : b = boolOf p := boolOf_eq h
theorem ctn {B : Nat} {u : Value} {L : List ByteArray} {w : World} (s : ByteArray) (h : w.ownsRow B 9 1 u L.length (sc L)) (hl : L.length ≤ 2000) : Calls Tryz.prog 29 #[u, .string s] w fun e w' => e = .returned (.bool (boolOf (s ∈ L))) ∧ Below w.heap.size w w' := by
 by_cases hL : L = []
 · subst hL
   obtain ⟨A, c, rfl⟩ := nr_form h
   refine (Tryz.slices_Contains_string_empty A c s w).mono ?_
   rintro e w' ⟨he, rfl⟩
   exact ⟨by rw [he, boolOf_false (by simp)], Below.refl _ _⟩
 · obtain ⟨g, c, rfl, hg, hc⟩ := own_strs h hL
   refine (Tryz.slices_Contains_string g 0 L.length c L s w (Nat.le_refl _) (by omega) hc).mono ?_
   rintro e w' ⟨he, rfl⟩
   refine ⟨?_, Below.refl _ _⟩
   rw [he, List.take_length, boolOf_eq2 (Lib.containsS_iff L s)]
structure BoxS (w : World) (g : Nat) (L : List ByteArray) : Prop where
 lt : g < w.heap.size
 at_ : ∃ B u, w.cell? ⟨g, 0, none⟩ = some u ∧ w.ownsRow B 9 1 u L.length (sc L)
theorem BoxS.below {w w' : World} {g : Nat} {L : List ByteArray} (h : BoxS w g L) (hb : Below w.heap.size w w') : BoxS w' g L := by
 obtain ⟨B, u, h1, h2⟩ := h.at_
 exact ⟨Nat.lt_of_lt_of_le h.lt hb.size, B, u, (hb.cell (p := ⟨g, 0, none⟩) h.lt).trans h1, own_below h2 hb⟩
end Go.Proofs.YtghefgifhebniaaGreatDoor

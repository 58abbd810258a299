/- The example of the chapter, in plain numbers. -/
import Derived.Test.YtapfmbnppeonkaaGreatDoorAdd
import Derived.Test.YtapfmbnppeonkaaGreatDoorMgC
import Derived.Test.YtapfmbnppeonkaaGreatDoorMgD
import Derived.Test.YtapfmbnppeonkaaGreatDoorMgB
namespace Go.Proofs.YtapfmbnppeonkaaGreatDoor
open Go.RowKit
set_option linter.unusedVariables false
set_option linter.unusedSimpArgs false

def eX : Nat → Int := fun k => if k = 0 then 0 else if k = 1 then 10 else 20
def eY : Nat → Int := fun k => if k = 0 then 0 else if k = 1 then 5 else 25
def fX : Nat → Int := fun _ => 5
def fY : Nat → Int := fun _ => 1
theorem e_ok : TabOK 3 eX eY := by
  refine ⟨by omega, by omega, fun k hk => ?_⟩
  have : k = 0 ∨ k = 1 ∨ k = 2 := by omega
  rcases this with rfl | rfl | rfl
  · exact ⟨by unfold inB eX; simp, by unfold inB eY; simp, fun h => absurd h (by omega)⟩
  · exact ⟨by unfold inB eX; simp, by unfold inB eY; simp, fun _ => ⟨by simp [eX], by simp [eY]⟩⟩
  · exact ⟨by unfold inB eX; simp, by unfold inB eY; simp, fun _ => ⟨by simp [eX], by simp [eY]⟩⟩
theorem f_ok : TabOK 1 fX fY := by
  refine ⟨by omega, by omega, fun k hk => ?_⟩
  exact ⟨by unfold inB fX; simp, by unfold inB fY; simp, fun h => absurd h (by omega)⟩
theorem ev5 : Val.val eX eY 2 5 = 2 := by decide
theorem er5 : Val.rst eX eY 2 5 = ((5 : Nat) : Int) := by decide
theorem ed5 : Val.dn eX 2 5 = 10 := by decide
theorem ec11 : Val.cl eX eY 2 11 = 7 := by decide
theorem e_at : AtIs 2 5 10 5 2 0 := by
  refine .inr ⟨by decide, by decide, by decide, .inr ⟨by decide, by decide, by decide, by decide, rfl⟩⟩
theorem e_least {v e : Int} (h : LeastIs eX eY 2 6 v e) : v = 11 ∧ e = 0 := by
  rcases h with ⟨h, rfl⟩ | ⟨h, _⟩
  · rcases h with ⟨h, _⟩ | ⟨k, hk, h1, h2, rfl⟩
    · exact absurd h (by decide)
    · have : k = 0 ∨ k = 1 := by omega
      rcases this with rfl | rfl
      · exact absurd h2 (by decide)
      · exact ⟨by decide, rfl⟩
  · exact absurd h (by decide)
theorem e_most {v e : Int} (h : MostIs eX eY 2 6 v e) : v = 10 ∧ e = 0 := by
  rcases h with ⟨h, rfl⟩ | ⟨h, _⟩
  · rcases h with ⟨h, _⟩ | ⟨k, hk, h1, h2, rfl⟩
    · exact absurd h (by decide)
    · have : k = 0 ∨ k = 1 := by omega
      rcases this with rfl | rfl
      · exact absurd h2 (by decide)
      · exact ⟨by decide, rfl⟩
  · exact absurd h (by decide)
theorem e_pre : pre (kX (tl 3 eX eY ++ tl 1 fX fY)) (3 + 1) = [0, 10, 20, 5] := by decide
theorem e_sort : ([0, 10, 20, 5] : List Int).mergeSort (fun x y => decide (x ≤ y)) = [0, 5, 10, 20] := by
  simp [List.mergeSort, List.MergeSort.Internal.splitInTwo, List.merge]
theorem e_addP : [0, 5, 10, 20] = addP 3 eX eY 1 fX fY := by
  unfold addP; rw [e_pre, e_sort]; decide
def pL : List Int := [0, 5, 10, 20]
def qL : List Int := [1, 3, 6, 26]
theorem e_addY (k : Nat) (hk : k < 4) : addY eX eY 2 fX fY 0 (pL.getD k 0) = qL.getD k 0 := by
  have : k = 0 ∨ k = 1 ∨ k = 2 ∨ k = 3 := by omega
  rcases this with rfl | rfl | rfl | rfl <;> decide
theorem e_cut : cutL eX eY 2 5 12 = [(5, 2), (10, 5), (12, 9)] := by decide
theorem TabAt.congr {w : World} {b off n : Nat} {X Y X' Y' : Nat → Int} (h : TabAt w b off n X Y) (hX : ∀ k, k < n → X k = X' k) (hY : ∀ k, k < n → Y k = Y' k) : TabAt w b off n X' Y' :=
  ⟨h.1, fun k hk => by rw [← hX k hk, ← hY k hk]; exact h.2 k hk⟩
/-- The text of a number from 0 to 99. -/
def tx6 (n : Int) : ByteArray := if n < 10 then dg n.toNat else dg (n / 10).toNat ++ dg (n % 10).toNat
theorem tx6_size {n : Int} (h0 : 0 ≤ n) (h1 : n < 100) : (tx6 n).size ≤ 30 := by
  have hd : ∀ d, d < 10 → (dg d).size ≤ 10 := by
    intro d hd
    have : d = 0 ∨ d = 1 ∨ d = 2 ∨ d = 3 ∨ d = 4 ∨ d = 5 ∨ d = 6 ∨ d = 7 ∨ d = 8 ∨ d = 9 := by omega
    rcases this with rfl | rfl | rfl | rfl | rfl | rfl | rfl | rfl | rfl | rfl <;> decide
  unfold tx6
  split
  · have := hd n.toNat (by omega); omega
  · have := hd (n / 10).toNat (by omega)
    have := hd (n % 10).toNat (by omega)
    rw [ByteArray.size_append]; omega
theorem rdec_tx6 {n : Int} (h0 : 0 ≤ n) (h1 : n < 100) (w : World) : Calls Tryz.prog 27 #[.int .i64 n] w fun e w' => e = .returned (.string (tx6 n)) ∧ w = w' := by
  unfold tx6
  split
  · have := rdec_one n.toNat (by omega) w
    rw [show ((n.toNat : Nat) : Int) = n by omega] at this
    exact this
  · have := rdec_two (n / 10).toNat (n % 10).toNat (by omega) (by omega) (by omega) w
    rw [show ((10 * (n / 10).toNat + (n % 10).toNat : Nat) : Int) = n by omega] at this
    exact this
theorem small_l {L : List Int} (h : ∀ x ∈ L, 0 ≤ x ∧ x < 100) {k : Nat} (hk : k < L.length) : 0 ≤ L.getD k 0 ∧ L.getD k 0 < 100 := by
  rw [List.getD_eq_getElem?_getD, List.getElem?_eq_getElem hk]
  exact h _ (List.getElem_mem hk)
theorem e_text (g c n : Nat) (P Q : List Int) (hn : n = P.length) (hn' : n = Q.length) (h100 : n ≤ 100) (hP : ∀ x ∈ P, 0 ≤ x ∧ x < 100) (hQ : ∀ x ∈ Q, 0 ≤ x ∧ x < 100) (w : World) (ht : TabAt w g 0 n (fun k => P.getD k 0) (fun k => Q.getD k 0)) :
    Calls Tryz.prog 11 #[.slice (some ⟨g, 0, none⟩) n c] w fun e w' => e = .returned (.string (tt tx6 (fun k => P.getD k 0) (fun k => Q.getD k 0) n)) ∧ Below w.heap.size w w' :=
  rtext g 0 n c _ _ tx6 w h100 ht (fun k hk w => rdec_tx6 (small_l hP (by omega)).1 (small_l hP (by omega)).2 w) (fun k hk w => rdec_tx6 (small_l hQ (by omega)).1 (small_l hQ (by omega)).2 w)
    (fun k hk => ⟨tx6_size (small_l hP (by omega)).1 (small_l hP (by omega)).2, tx6_size (small_l hQ (by omega)).1 (small_l hQ (by omega)).2⟩)
theorem e_t1 : tt tx6 (fun k => pL.getD k 0) (fun k => qL.getD k 0) 4 = ⟨#[48, 58, 49, 32, 53, 58, 51, 32, 49, 48, 58, 54, 32, 50, 48, 58, 50, 54]⟩ := by decide
theorem e_t2 : tt tx6 (fun k => ([5, 10, 12] : List Int).getD k 0) (fun k => ([2, 5, 9] : List Int).getD k 0) 3 = ⟨#[53, 58, 50, 32, 49, 48, 58, 53, 32, 49, 50, 58, 57]⟩ := by decide
end Go.Proofs.YtapfmbnppeonkaaGreatDoor

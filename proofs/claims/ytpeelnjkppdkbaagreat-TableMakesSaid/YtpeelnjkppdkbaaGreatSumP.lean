/- The places and the values of a sum of two tables: plain mathematics. -/
import Derived.Test.YtpeelnjkppdkbaaGreatAdd
import Derived.Test.YtpeelnjkppdkbaaGreatGrowsP
import Derived.Lib.RowBridge
namespace Go.Proofs.YtpeelnjkppdkbaaGreat
set_option linter.unusedVariables false
set_option linter.unusedSimpArgs false

theorem le_sorted (l : List Int) : (l.mergeSort fun x y => decide (x ≤ y)).Pairwise (· ≤ ·) := by
  have h := List.pairwise_mergeSort (le := fun x y : Int => decide (x ≤ y)) (fun a b c h1 h2 => by simp only [decide_eq_true_eq] at *; omega) (fun a b => by simp only [Bool.or_eq_true, decide_eq_true_eq]; omega) l
  exact h.imp (fun h => of_decide_eq_true h)
theorem sorted_perm_eq : ∀ {l m : List Int}, l.Perm m → l.Pairwise (· ≤ ·) → m.Pairwise (· ≤ ·) → l = m := by
  intro l
  induction l with
  | nil => intro m hp _ _; exact (List.nil_perm.1 hp).symm
  | cons a l ih =>
    intro m hp hl hm
    cases m with
    | nil => exact absurd hp.symm (by simp)
    | cons b m =>
      rw [List.pairwise_cons] at hl hm
      have hab : a = b := by
        have h1 : a ∈ b :: m := hp.mem_iff.1 (List.mem_cons_self ..)
        have h2 : b ∈ a :: l := hp.mem_iff.2 (List.mem_cons_self ..)
        rcases List.mem_cons.1 h1 with h | h
        · exact h
        · rcases List.mem_cons.1 h2 with h' | h'
          · exact h'.symm
          · have := hm.1 a h
            have := hl.1 b h'
            omega
      subst hab
      rw [ih (List.Perm.cons_inv hp) hl.2 hm.2]
theorem sort_comm (l m : List Int) : ((l ++ m).mergeSort fun x y => decide (x ≤ y)) = ((m ++ l).mergeSort fun x y => decide (x ≤ y)) := by
  refine sorted_perm_eq ?_ (le_sorted _) (le_sorted _)
  exact (List.mergeSort_perm _ _).trans (List.perm_append_comm.trans (List.mergeSort_perm _ _).symm)
theorem pre_tl (na nb : Nat) (XA YA XB YB : Nat → Int) : pre (kX (tl na XA YA ++ tl nb XB YB)) (na + nb) = pre XA na ++ pre XB nb := by
  apply List.ext_getElem?
  intro i
  unfold pre
  rw [List.getElem?_map]
  by_cases h1 : i < na
  · rw [List.getElem?_append_left (by simp; omega), List.getElem?_map, List.getElem?_range (by omega), List.getElem?_range h1]
    simp [kX, tl, List.getD, List.getElem?_append_left, h1]
  · by_cases h2 : i < na + nb
    · rw [List.getElem?_append_right (by simp; omega), List.getElem?_map, List.getElem?_range h2]
      rw [List.length_map, List.length_range, List.getElem?_range (by omega)]
      have : kX (tl na XA YA ++ tl nb XB YB) i = XB (i - na) := by
        unfold kX
        rw [List.getD_eq_getElem?_getD, List.getElem?_append_right (by rw [tl_len]; omega), tl_len]
        simp [tl, show i - na < nb by omega]
      simp [this]
    · rw [List.getElem?_eq_none (by simp; omega), List.getElem?_eq_none (by simp; omega)]
      rfl
theorem addP_comm (na nb : Nat) (XA YA XB YB : Nat → Int) : addP na XA YA nb XB YB = addP nb XB YB na XA YA := by
  unfold addP; rw [pre_tl, pre_tl, sort_comm]
theorem car_comm (r d s c : Nat) : car r d s c = car s c r d := by
  unfold car
  congr 1
  apply propext
  rw [Nat.mul_comm c d]
  constructor <;> rintro ⟨a, b, c⟩ <;> exact ⟨b, a, by omega⟩
theorem addY_comm (XA YA : Nat → Int) (ma : Nat) (XB YB : Nat → Int) (mb : Nat) (x : Int) : addY XA YA ma XB YB mb x = addY XB YB mb XA YA ma x := by
  unfold addY; rw [car_comm, Int.add_comm (Val.val XA YA ma x)]
end Go.Proofs.YtpeelnjkppdkbaaGreat

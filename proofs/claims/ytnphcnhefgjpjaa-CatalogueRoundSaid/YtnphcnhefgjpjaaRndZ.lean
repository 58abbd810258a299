/- What a circle of 2 to 40 parts is. Plain. -/
import Derived.Test.YtnphcnhefgjpjaaRndA
import Derived.Test.YtnphcnhefgjpjaaRndB
import Derived.Test.YtnphcnhefgjpjaaRndC
import Derived.Test.YtnphcnhefgjpjaaRndD
import Derived.Test.YtnphcnhefgjpjaaRndE
import Derived.Test.YtnphcnhefgjpjaaRndF
import Derived.Test.YtnphcnhefgjpjaaRndG
import Derived.Test.YtnphcnhefgjpjaaRndH
namespace Go.Proofs.Ytnphcnhefgjpjaa.Circ
theorem all_chk : ∀ P, 2 ≤ P → P ≤ 40 → ∃ (G : Nat) (l : List (Nat × Nat × Nat)), l.length = P ∧ idx l 0 = true ∧ ∀ S, 40 ≤ S → S < 5000 → chk P G l S = true
  | 0, h, _ => absurd h (by omega)
  | 1, h, _ => absurd h (by omega)
  | 2, _, _ => ⟨115853, cs2, rfl, rfl, r2⟩
  | 3, _, _ => ⟨218866, cs3, rfl, rfl, r3⟩
  | 4, _, _ => ⟨275179, cs4, rfl, rfl, r4⟩
  | 5, _, _ => ⟨308509, cs5, rfl, rfl, r5⟩
  | 6, _, _ => ⟨343434, cs6, rfl, rfl, r6⟩
  | 7, _, _ => ⟨369348, cs7, rfl, rfl, r7⟩
  | 8, _, _ => ⟨387298, cs8, rfl, rfl, r8⟩
  | 9, _, _ => ⟨400125, cs9, rfl, rfl, r9⟩
  | 10, _, _ => ⟨409360, cs10, rfl, rfl, r10⟩
  | 11, _, _ => ⟨416332, cs11, rfl, rfl, r11⟩
  | 12, _, _ => ⟨421663, cs12, rfl, rfl, r12⟩
  | 13, _, _ => ⟨425614, cs13, rfl, rfl, r13⟩
  | 14, _, _ => ⟨428704, cs14, rfl, rfl, r14⟩
  | 15, _, _ => ⟨431118, cs15, rfl, rfl, r15⟩
  | 16, _, _ => ⟨432957, cs16, rfl, rfl, r16⟩
  | 17, _, _ => ⟨434491, cs17, rfl, rfl, r17⟩
  | 18, _, _ => ⟨435557, cs18, rfl, rfl, r18⟩
  | 19, _, _ => ⟨436572, cs19, rfl, rfl, r19⟩
  | 20, _, _ => ⟨437178, cs20, rfl, rfl, r20⟩
  | 21, _, _ => ⟨437796, cs21, rfl, rfl, r21⟩
  | 22, _, _ => ⟨438088, cs22, rfl, rfl, r22⟩
  | 23, _, _ => ⟨438629, cs23, rfl, rfl, r23⟩
  | 24, _, _ => ⟨438617, cs24, rfl, rfl, r24⟩
  | 25, _, _ => ⟨438856, cs25, rfl, rfl, r25⟩
  | 26, _, _ => ⟨438748, cs26, rfl, rfl, r26⟩
  | 27, _, _ => ⟨438948, cs27, rfl, rfl, r27⟩
  | 28, _, _ => ⟨438837, cs28, rfl, rfl, r28⟩
  | 29, _, _ => ⟨438985, cs29, rfl, rfl, r29⟩
  | 30, _, _ => ⟨439481, cs30, rfl, rfl, r30⟩
  | 31, _, _ => ⟨439934, cs31, rfl, rfl, r31⟩
  | 32, _, _ => ⟨440470, cs32, rfl, rfl, r32⟩
  | 33, _, _ => ⟨440981, cs33, rfl, rfl, r33⟩
  | 34, _, _ => ⟨441254, cs34, rfl, rfl, r34⟩
  | 35, _, _ => ⟨441601, cs35, rfl, rfl, r35⟩
  | 36, _, _ => ⟨441684, cs36, rfl, rfl, r36⟩
  | 37, _, _ => ⟨442017, cs37, rfl, rfl, r37⟩
  | 38, _, _ => ⟨442067, cs38, rfl, rfl, r38⟩
  | 39, _, _ => ⟨442242, cs39, rfl, rfl, r39⟩
  | 40, _, _ => ⟨442452, cs40, rfl, rfl, r40⟩
  | n + 41, _, h => absurd h (by omega)
/-- A circle is a circle. -/
theorem round_facts {S P : Nat} (h2 : 2 ≤ P) (h40 : P ≤ 40) (hS : 40 ≤ S) (hS2 : S ≤ 4000) :
    14 * ca S P P ≤ 11 * (S * S) ∧ (P ≤ 7 ∨ 7 * (S * S) ≤ 10 * ca S P P + 10 * (P * S)) ∧ (P % 2 = 0 → S % P = 0 → ca S P P = 2 * ca S P (P / 2)) ∧ ∀ T, S + 2 * P ≤ T → T < 5000 → ck S P P ≤ ck T P P := by
  obtain ⟨G, l, hl, hx, h⟩ := all_chk P h2 h40
  have h1 := h S hS (by omega)
  obtain ⟨_, _, a, b⟩ := chk_spec hl hx h1
  exact ⟨a, b, fun x y => halves (by omega) x y, fun T hT hT2 => ck_more hl hx h1 (h T (by omega) hT2) hT⟩
end Go.Proofs.Ytnphcnhefgjpjaa.Circ

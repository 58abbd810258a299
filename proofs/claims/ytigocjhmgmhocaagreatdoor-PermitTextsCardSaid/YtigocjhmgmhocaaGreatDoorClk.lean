/- The package's calendar: the year of an instant. -/
import Derived.Test.YtigocjhmgmhocaaGreatDoorBase
import Derived.Test.YtigocjhmgmhocaaGreatDoorCalP
import Derived.Test.YtigocjhmgmhocaaGreatDoorShelfK
import Derived.Laws.IdiomArrays
namespace Go.Proofs.YtigocjhmgmhocaaGreatDoor
open Go.RowKit Go.Sort
set_option linter.unusedVariables false
set_option linter.unusedSimpArgs false

theorem quiet_left {P : Program} {f : FuncId} {args : Array Value} {w : World} {n : Nat} {v : Value}
    (h : Calls P f args (w.drewN n) fun e w' => e = .returned v ∧ w.drewN n = w') : Calls P f args (w.drewN n) fun e w' => e = .returned v ∧ ∃ m, w' = w.drewN m :=
  h.mono fun _ _ ⟨he, hw⟩ => ⟨he, n, hw.symm⟩
theorem tbefore (y : Nat) (h1 : 1 ≤ y) (h2 : y ≤ 10000) (w : World) : Calls Tryz.prog 110 #[.int .i64 (y : Int)] w fun e w' => e = .returned (.int .i64 (yb y)) ∧ w = w' := by
  obtain ⟨m, hm⟩ : ∃ m : Nat, m = y - 1 := ⟨_, rfl⟩
  obtain ⟨a, ha⟩ : ∃ a : Nat, a = 365 * m := ⟨_, rfl⟩
  obtain ⟨b, hb⟩ : ∃ b : Nat, b = m / 4 := ⟨_, rfl⟩
  obtain ⟨c, hc⟩ : ∃ c : Nat, c = a + b := ⟨_, rfl⟩
  obtain ⟨d, hd⟩ : ∃ d : Nat, d = m / 100 := ⟨_, rfl⟩
  obtain ⟨f, hf⟩ : ∃ f : Nat, f = c - d := ⟨_, rfl⟩
  obtain ⟨g, hg⟩ : ∃ g : Nat, g = m / 400 := ⟨_, rfl⟩
  obtain ⟨h, hh⟩ : ∃ h : Nat, h = f + g := ⟨_, rfl⟩
  obtain ⟨z, hz⟩ : ∃ z : Int, z = yb y := ⟨_, rfl⟩
  have e1 : IntKind.i64.wrap ((y : Int) - 1) = (m : Int) := by rw [IntKind.wrap_i64]; omega
  have e2 : IntKind.i64.wrap (365 * (m : Int)) = (a : Int) := by rw [IntKind.wrap_i64]; omega
  have e3 : Int.tdiv (m : Int) 4 = (b : Int) := by rw [hb]; exact Int.ofNat_tdiv m 4
  have e3w : IntKind.i64.wrap (b : Int) = (b : Int) := by rw [IntKind.wrap_i64]; omega
  have e4 : IntKind.i64.wrap ((a : Int) + (b : Int)) = (c : Int) := by rw [IntKind.wrap_i64]; omega
  have e5 : Int.tdiv (m : Int) 100 = (d : Int) := by rw [hd]; exact Int.ofNat_tdiv m 100
  have e5w : IntKind.i64.wrap (d : Int) = (d : Int) := by rw [IntKind.wrap_i64]; omega
  have e6 : IntKind.i64.wrap ((c : Int) - (d : Int)) = (f : Int) := by rw [IntKind.wrap_i64]; omega
  have e7 : Int.tdiv (m : Int) 400 = (g : Int) := by rw [hg]; exact Int.ofNat_tdiv m 400
  have e7w : IntKind.i64.wrap (g : Int) = (g : Int) := by rw [IntKind.wrap_i64]; omega
  have e8 : IntKind.i64.wrap ((f : Int) + (g : Int)) = (h : Int) := by rw [IntKind.wrap_i64]; omega
  have hm2 : (y : Int) - 1 = (m : Int) := by omega
  have hdc : d ≤ c := by omega
  have hz2 : yb (y : Int) = (h : Int) - 730119 := by unfold yb; rw [hm2]; omega
  have hhb : h ≤ 4000000 := by omega
  have e9 : IntKind.i64.wrap ((h : Int) - 730119) = z := by rw [IntKind.wrap_i64, hz, hz2]; omega
  rw [← hz]
  clear h1 h2 hm ha hb hc hd hf hg hh hz hm2 hdc hz2 hhb
  go_enter Tryz.func110, Tryz.ntmps110
  go_wp2_with fail
  go_ret
  exact ⟨rfl, rfl⟩
/-- What the search asks at a place. -/
def pastAt (d : Int) (i : Nat) : Bool := decide (d < yb ((i : Int) + 2))
theorem tclos (d : Int) (b i : Nat) (hi : i < 9999) (W : World) (hc : W.cell? ⟨b, 0, none⟩ = some (.int .i64 d)) :
    Calls Tryz.prog 112 #[.int .i64 (i : Int), .pointer (some ⟨b, 0, none⟩)] W fun e w' => e = .returned (.bool (pastAt d i)) ∧ ∃ q, w' = W.drewN q := by
  obtain ⟨y, hy⟩ : ∃ y : Nat, y = i + 2 := ⟨_, rfl⟩
  have e1 : IntKind.i64.wrap ((i : Int) + 2) = (y : Int) := by rw [IntKind.wrap_i64]; omega
  have S1 := Lib.hid fun w => tbefore y (by omega) (by omega) w
  have t1 : decide (d < yb (y : Int)) = pastAt d i := by unfold pastAt; rw [hy]; rfl
  generalize pastAt d i = p at t1 ⊢
  clear hi hy
  go_enter Tryz.func112, Tryz.ntmps112
  go_wp2_with fail
  go_quiet ((go_at_call 110; with_reducible exact quiet_left (S1.out _)))
  go_wp2_with fail
  go_ret
  exact ⟨rfl, _, rfl⟩
theorem count_lt (k : Nat) : ∀ N, k ≤ N → (List.range N).countP (fun i => decide (i < k)) = k
  | 0, h => by obtain rfl : k = 0 := by omega
               rfl
  | N + 1, h => by
    rw [List.range_succ, List.countP_append]
    rcases Nat.lt_or_ge N k with g | g
    · obtain rfl : k = N + 1 := by omega
      have : (List.range N).countP (fun i => decide (i < N + 1)) = N := by
        rw [List.countP_eq_length.2 (fun a ha => by have := List.mem_range.1 ha; exact decide_eq_true (by omega))]
        simp
      rw [this]; simp
    · rw [count_lt k N g]
      have : decide (N < k) = false := decide_eq_false (by omega)
      simp [this]
theorem tsearch (d y : Int) (hy : YearIs d y) (b : Nat) (w : World) (hc : w.cell? ⟨b, 0, none⟩ = some (.int .i64 d)) (hb : b < w.heap.size) :
    Calls Tryz.prog 111 #[.int .i64 9999, .func (.func 112) #[] #[.pointer (some ⟨b, 0, none⟩)]] w fun e w' => e = .returned (.int .i64 (y - 1)) ∧ Below w.heap.size w w' := by
  have h1 := hy.lo
  have h2 := hy.hi
  have h := Any.sort_Search Tryz.searchA 112 #[.pointer (some ⟨b, 0, none⟩)] 9999 (pastAt d) w (enters_of Tryz.func112 (by kernel_rfl) rfl) (by decide)
    (fun m os i hi => by
      refine (tclos d b i hi _ ?_).mono ?_
      · exact (cell?_grow _ _ _ (by simpa using hb)).trans (by simpa using hc)
      · rintro e w' ⟨he, q, rfl⟩
        exact ⟨he, q, #[], by simp⟩)
    (fun a c hac hc2 hp => by
      unfold pastAt at hp ⊢
      have := of_decide_eq_true hp
      have := yb_le (show (a : Int) + 2 ≤ (c : Int) + 2 by omega)
      exact decide_eq_true (by omega))
  have hcount : (List.range 9999).countP (fun i => !pastAt d i) = (y - 1).toNat := by
    rw [← count_lt (y - 1).toNat 9999 (by omega)]
    refine List.countP_congr fun i hi => ?_
    unfold pastAt
    by_cases hlt : i < (y - 1).toNat
    · have := yb_le (show (i : Int) + 2 ≤ y by omega)
      have := hy.a
      simp [hlt]; omega
    · have := yb_le (show y + 1 ≤ (i : Int) + 2 by omega)
      have := hy.b
      simp [hlt]; omega
  rw [hcount] at h
  change Calls Tryz.prog 111 _ _ _ at h
  refine h.mono ?_
  rintro e w' ⟨rfl, q, os, rfl⟩
  refine ⟨by rw [show (((y - 1).toNat : Nat) : Int) = y - 1 by omega], ?_⟩
  exact below_grown_sl _ _ _ _ (Nat.le_refl _)
end Go.Proofs.YtigocjhmgmhocaaGreatDoor

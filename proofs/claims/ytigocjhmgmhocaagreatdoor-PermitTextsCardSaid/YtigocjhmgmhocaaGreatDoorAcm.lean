/- The map of accounts. -/
import Derived.Test.YtigocjhmgmhocaaGreatDoorYrs
import Derived.Maps.Own
import Derived.Maps.OwnOps
import Derived.Maps.OwnSet
import Derived.Lib.SlKeysI
namespace Go.Proofs.YtigocjhmgmhocaaGreatDoor
open Go.RowKit Go.Maps
set_option linter.unusedVariables false
set_option linter.unusedSimpArgs false

/-- How an account reads. -/
def accE (v : Value) : Option (DataW Unit × List MemPlace) := match v with
  | .agg ⟨[.int .i64 a, .int .i64 b]⟩ => some (.agg [.lit (.int .i64 a), .lit (.int .i64 b)], [])
  | _ => none
def accD (a b : Int) : DataW Unit := .agg [.lit (.int .i64 a), .lit (.int .i64 b)]
theorem accE_inv {v : Value} {a b : Int} {ps : List MemPlace} (h : accE v = some (accD a b, ps)) : v = .agg #[.int .i64 a, .int .i64 b] := by
  unfold accE accD at h
  split at h
  · simp only [Option.some.injEq, Prod.mk.injEq, DataW.agg.injEq, List.cons.injEq, DataW.lit.injEq, Lit.int.injEq, true_and, and_true] at h
    obtain ⟨⟨rfl, rfl⟩, _⟩ := h
    rfl
  · cases h
theorem kint : Keyed Tryz.prog 3 := int_keyed Tryz.underlying3
theorem zacc (w : World) : (zeroValue 77).run Tryz.prog w = .ok (.agg #[.int .i64 0, .int .i64 0]) w := by kernel_rfl
theorem kwf {y : Int} (h : 0 ≤ y ∧ y ≤ 9999) : (Lit.int .i64 y).wf = true := by
  simp [Lit.wf, IntKind.min, IntKind.max, IntKind.signed, IntKind.bits]; omega
/-- The accounts of the first i events, in block b. -/
def AMem (wr : World) (b : Nat) (Y T : Nat → Int) (i : Nat) : Prop := ∃ D : DataW Unit, wr.ownsMap Tryz.prog 3 accE b i D ∧
  (∀ y, D.atKey (.int .i64 y) (accD 0 0) = accD (cnt Y y i : Int) (cutS (sm Y T y i))) ∧ (∀ y, has D (.int .i64 y) = true ↔ y ∈ keysTo Y i)
theorem AMem.made (w : World) (Y T : Nat → Int) : AMem (w.alloc (.map #[] 0)) w.heap.size Y T 0 :=
  ⟨.map [], World.ownsMap_made _ _ _ _, fun y => rfl, fun y => by simp [keysTo, has]⟩
theorem AMem.kept {w w' : World} {b : Nat} {Y T : Nat → Int} {i : Nat} {row : Option Nat} (h : AMem w b Y T i) (hg : w.grownBy w' row) (hne : some b ≠ row) : AMem w' b Y T i := by
  obtain ⟨D, h1, h2, h3⟩ := h
  exact ⟨D, h1.kept hg hne, h2, h3⟩
theorem AMem.call {w w' : World} {b : Nat} {Y T : Nat → Int} {i : Nat} (h : AMem w b Y T i) (hb : Below w.heap.size w w') : AMem w' b Y T i := h.kept (only_of_below hb none) (by simp)
theorem AMem.lt {w : World} {b : Nat} {Y T : Nat → Int} {i : Nat} (h : AMem w b Y T i) : b < w.heap.size := by
  obtain ⟨D, h1, _⟩ := h
  exact h1.lt
/-- A year's account. -/
theorem AMem.look {w : World} {b : Nat} {Y T : Nat → Int} {i : Nat} (h : AMem w b Y T i) {y : Int} (hy : 0 ≤ y ∧ y ≤ 9999) :
    (Instr.lookup 75 (.map (some b)) (.int .i64 y) false).run Tryz.prog w = .ok (.agg #[.int .i64 (cnt Y y i : Int), .int .i64 (cutS (sm Y T y i))]) w := by
  obtain ⟨D, h1, h2, _⟩ := h
  obtain ⟨v, ps, hrun, hv⟩ := h1.lookup kint Tryz.underlying75 (zacc w) (zd := accD 0 0) (zp := []) rfl (keyOf_int_mk Tryz.underlying3 (kwf hy))
  rw [h2] at hv
  rw [hrun, accE_inv hv]
theorem int_isKey (y : Int) : WideAt.IsKeyLit (.int .i64 y) := by trivial
/-- A year's account is put. -/
theorem AMem.put {w : World} {b : Nat} {Y T : Nat → Int} {i : Nat} (h : AMem w b Y T i) (hi : i ≤ 40) (hy : 0 ≤ Y i ∧ Y i ≤ 9999) (hT : ∀ j, j ≤ i → 0 ≤ T j) :
    ∃ w', (Instr.mapUpdate 75 (.map (some b)) (.int .i64 (Y i)) (.agg #[.int .i64 ((cnt Y (Y i) i : Int) + 1), .int .i64 (cutS (cutS (sm Y T (Y i) i) + cutS (T i)))])).run Tryz.prog w = .ok () w' ∧ AMem w' b Y T (i + 1) ∧ w.grownBy w' (some b) := by
  obtain ⟨D, h1, h2, h3⟩ := h
  obtain ⟨w', hr, hown, hg⟩ := h1.update kint Tryz.underlying75 (by simp only [maxLen]; omega) (keyOf_int_mk Tryz.underlying3 (kwf hy)) (val := .agg #[.int .i64 ((cnt Y (Y i) i : Int) + 1), .int .i64 (cutS (cutS (sm Y T (Y i) i) + cutS (T i)))]) (d := accD ((cnt Y (Y i) i : Int) + 1) (cutS (cutS (sm Y T (Y i) i) + cutS (T i)))) (ps := []) rfl
  refine ⟨w', hr, ⟨_, hown, fun y => ?_, fun y => ?_⟩, hg⟩
  · by_cases hyy : y = Y i
    · subst hyy
      rw [atKey_put_same h1.isMap (int_isKey _)]
      have e1 : cnt Y (Y i) (i + 1) = cnt Y (Y i) i + 1 := by show _ + _ = _; rw [if_pos rfl]
      have e2 : sm Y T (Y i) (i + 1) = sm Y T (Y i) i + T i := by show _ + _ = _; rw [if_pos rfl]
      rw [e1, e2, cut_add (sm_nn i fun j hj => hT j (by omega)) (hT i (Nat.le_refl _))]
      simp
    · rw [atKey_put_other (by simpa using hyy), h2 y]
      have e1 : cnt Y y (i + 1) = cnt Y y i := by show _ + _ = _; rw [if_neg (Ne.symm hyy)]; rfl
      have e2 : sm Y T y (i + 1) = sm Y T y i := by show _ + _ = _; rw [if_neg (Ne.symm hyy), Int.add_zero]
      rw [e1, e2]
  · have hm : y ∈ keysTo Y (i + 1) ↔ y ∈ keysTo Y i ∨ y = Y i := by
      rw [mem_keys, mem_keys]
      constructor
      · rintro ⟨j, hj, e⟩
        rcases Nat.lt_or_ge j i with g | g
        · exact .inl ⟨j, g, e⟩
        · obtain rfl : j = i := by omega
          exact .inr e.symm
      · rintro (⟨j, hj, e⟩ | e)
        · exact ⟨j, by omega, e⟩
        · exact ⟨i, by omega, e.symm⟩
    rw [hm]
    by_cases hyy : y = Y i
    · subst hyy
      simp [has_put_same h1.isMap (int_isKey _)]
    · rw [has_put_other (by simpa using hyy), h3 y]
      simp [hyy]
theorem AMem.keys {w : World} {b : Nat} {Y T : Nat → Int} {i : Nat} (h : AMem w b Y T i) (ha : Asc Y i) : ∃ D : DataW Unit, w.ownsMap Tryz.prog 3 accE b i D ∧ (keysTo Y i).Perm (intKeys D) := by
  obtain ⟨D, h1, h2, h3⟩ := h
  refine ⟨D, h1, ?_⟩
  exact CollectedI.perm (left := fun _ => false) (ss := keysTo Y i) ⟨((keys_lt ha).imp fun {a b} hab => by omega), fun x => by rw [h3 x]; simp⟩ h1 kint Tryz.underlying3 (fun _ => rfl)
end Go.Proofs.YtigocjhmgmhocaaGreatDoor

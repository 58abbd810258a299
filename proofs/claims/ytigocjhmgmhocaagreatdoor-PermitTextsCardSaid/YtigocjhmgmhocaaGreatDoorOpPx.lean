/- Slices of permits among the arguments; what the listed variables give (PermitTexts). -/
import Derived.Test.YtigocjhmgmhocaaGreatDoorRows
import Derived.Test.YtigocjhmgmhocaaGreatDoorStay
import Derived.Test.YtigocjhmgmhocaaGreatDoorPmI
import Derived.Deep.Strs
import Derived.LaidMore
import Derived.Stop.Joined
import Derived.Stop.LaidErr
import Derived.Lib.LaidTab
import Derived.Test.YtigocjhmgmhocaaGreatDoorEnv
import Derived.Lay
namespace Go.Proofs.YtigocjhmgmhocaaGreatDoor
open Go.RowKit Go.WideShapes Go.ChangeShapes Go.ChangeAt Go.Deep Go.Joins
set_option linter.unusedVariables false
set_option linter.unusedSimpArgs false

section
variable {H : Type} {enc : TypeId × Value → H} {P : Program} {w : World} {base : Nat} {spare : Nat → Bool} {held : Bool}
theorem open_slice_fields {t e : TypeId} {fs : Array Field} {fuel : Nat} {cs : List Value} {x : DataW H × List MemPlace} (ht : P.underlying t = some (.slice e)) (he : P.underlying e = some (.struct fs))
    (hone : oneCellFields P fs = true) (hC : P.cellsOf e = fs.size) (h : DataW.trod enc P w base spare held fuel t cs = some x) :
    (cs = [.slice none 0 0] ∧ x = (.nil, [])) ∨
    ∃ (a : Addr) (len cap m : Nat) (D : Nat → DataW H) (Pl : Nat → List MemPlace), cs = [.slice (some a) len cap] ∧ base ≤ a.block ∧ len ≤ cap ∧ cap ≤ maxLen ∧ m = (if spare a.block then cap else len) ∧
      x = (.slice ((List.range len).map D) ((List.range (m - len)).map fun j => D (len + j)), MemPlace.row a (m * fs.size) ++ (List.range m).flatMap Pl) ∧
      ∀ i, i < m → ∃ (ys : List (DataW H × List MemPlace)) (n : Nat), D i = .agg (ys.map (·.1)) ∧ Pl i = ys.flatMap (·.2) ∧ ys.length = fs.size ∧
        ∀ (j : Nat) (f : Field), fs[j]? = some f → ∃ (v : Value) (y : DataW H × List MemPlace), w.cell? (a.add (i * fs.size + j)) = some v ∧ ys[j]? = some y ∧ DataW.trod enc P w base spare held n f.type [v] = some y := by
  rcases open_slice ht h with h0 | ⟨a, len, cap, m, n, D, Pl, hcs, hb, hl, hm, hmm, hx, hi⟩
  · exact .inl h0
  · refine .inr ⟨a, len, cap, m, D, Pl, hcs, hb, hl, hm, hmm, by rw [hC] at hx; exact hx, fun i him => ?_⟩
    obtain ⟨cs', hc, ht'⟩ := hi i him
    rw [hC] at hc
    obtain ⟨ys, n', hn', hy, hlen, hyl, hf⟩ := DataW.trod_struct he ht'
    obtain ⟨_, hcl, hat⟩ := World.cells?_some hc
    simp only [Prod.mk.injEq] at hy
    refine ⟨ys, n', hy.1, hy.2, hyl, fun j f hj => ?_⟩
    obtain ⟨ho, hk⟩ := hone_of hone j f hj
    have hjl : j < fs.size := (Array.getElem?_eq_some_iff.1 hj).1
    have hcell := hat j hjl
    have hv : cs'[j]? = some (cs'[j]'(by omega)) := List.getElem?_eq_getElem (by omega)
    have h1 := hf j f hj
    rw [ho, hk] at h1
    have hone' : (cs'.drop j).take 1 = [cs'[j]'(by omega)] := by
      rw [List.drop_eq_getElem_cons (by omega)]
      rfl
    rw [hone'] at h1
    have hys : ys[j]? = some (ys[j]'(by omega)) := List.getElem?_eq_getElem (by omega)
    refine ⟨_, _, ?_, hys, h1.trans hys⟩
    rw [← Go.Deep.add_add, hcell, hv]
end


def cellInt (w : World) (a : Addr) : Int := match w.cell? a with
  | some (.int _ z) => z
  | _ => 0
def cellStr (w : World) (a : Addr) : ByteArray := match w.cell? a with
  | some (.string z) => z
  | _ => ByteArray.empty
theorem addr_of {W : World} {a : Addr} {v : Value} (hc : W.cell? a = some v) : ∃ b off, a = ⟨b, off, none⟩ ∧ b < W.heap.size ∧ ∀ i, (⟨b, off, none⟩ : Addr).add i = ⟨b, off + i, none⟩ := by
  have hlt := World.block_lt_of_cell? W _ hc
  obtain ⟨b, off, sp⟩ := a
  have hsp : sp = none := by
    cases sp with
    | none => rfl
    | some q => simp [World.cell?] at hc; split at hc <;> simp at hc
  subst hsp
  refine ⟨b, off, rfl, hlt, fun i => ?_⟩
  unfold Addr.add
  by_cases hi : i = 0
  · simp [hi]
  · simp [hi]
section
variable {H : Type} {enc : TypeId × Value → H} {W : World}
set_option maxRecDepth 100000 in
/-- A slice of permits. -/
theorem open_permits {b0 : Nat} {v : Value} {d : DataW H} {p : List MemPlace} (hv : Value.okWide Tryz.prog W .any b0 22 v) (h : DataW.Trod enc Tryz.prog W 0 (fun _ => true) true 22 v d p) :
    ∃ (A : Option Addr) (n c : Nat) (P : Pms), v = .slice A n c ∧ PmIn W A n P := by
  obtain ⟨a0, len0, cap0, rfl⟩ := okWide_slice Tryz.underlying22 hv
  obtain ⟨fuel, hf⟩ := h
  rcases open_slice_fields Tryz.underlying22 Tryz.underlying26 (by kernel_rfl) (by kernel_rfl) hf with ⟨hcs, _⟩ | ⟨a, len, cap, m, D, Pl, hcs, hb, hl, hm, hmm, hx, hf⟩
  · have e : Value.slice a0 len0 cap0 = .slice none 0 0 := by simpa [Value.cells] using hcs
    rw [e]
    exact ⟨none, 0, 0, ⟨fun _ => ByteArray.empty, fun _ => ByteArray.empty, fun _ => 0, fun _ => 0, fun _ => 0⟩, rfl, by omega, .inl rfl⟩
  · have e : Value.slice a0 len0 cap0 = .slice (some a) len cap := by simpa [Value.cells] using hcs
    rw [e]
    unfold maxLen at hm
    simp only [if_true] at hmm
    refine ⟨some a, len, cap, ⟨fun i => cellStr W (a.add (i * 5)), fun i => cellStr W (a.add (i * 5 + 1)), fun i => cellInt W (a.add (i * 5 + 2)), fun i => cellInt W (a.add (i * 5 + 3)), fun i => cellInt W (a.add (i * 5 + 4))⟩, rfl, by omega, ?_⟩
    have cells : ∀ i, i < len → W.cell? (a.add (i * 5)) = some (.string (cellStr W (a.add (i * 5)))) ∧ W.cell? (a.add (i * 5 + 1)) = some (.string (cellStr W (a.add (i * 5 + 1)))) ∧ W.cell? (a.add (i * 5 + 2)) = some (.int .i64 (cellInt W (a.add (i * 5 + 2)))) ∧ W.cell? (a.add (i * 5 + 3)) = some (.int .i64 (cellInt W (a.add (i * 5 + 3)))) ∧ W.cell? (a.add (i * 5 + 4)) = some (.int .i64 (cellInt W (a.add (i * 5 + 4)))) := by
      intro i hi
      obtain ⟨ys, n', _, _, _, hfld⟩ := hf i (by omega)
      obtain ⟨v0, y0, c0, _, t0⟩ := hfld 0 _ rfl
      obtain ⟨v1, y1, c1, _, t1⟩ := hfld 1 _ rfl
      obtain ⟨v2, y2, c2, _, t2⟩ := hfld 2 _ rfl
      obtain ⟨v3, y3, c3, _, t3⟩ := hfld 3 _ rfl
      obtain ⟨v4, y4, c4, _, t4⟩ := hfld 4 _ rfl
      obtain ⟨z0, e0, _, _⟩ := DataW.trod_string Tryz.underlying9 t0
      obtain ⟨z1, e1, _, _⟩ := DataW.trod_string Tryz.underlying9 t1
      obtain ⟨z2, e2, _, _⟩ := DataW.trod_int Tryz.underlying3 t2
      obtain ⟨z3, e3, _, _⟩ := DataW.trod_int Tryz.underlying3 t3
      obtain ⟨z4, e4, _, _⟩ := DataW.trod_int Tryz.underlying3 t4
      simp only [List.cons.injEq, and_true] at e0 e1 e2 e3 e4
      subst e0 e1 e2 e3 e4
      have c0' : W.cell? (a.add (i * 5)) = some (.string z0) := c0
      have c1' : W.cell? (a.add (i * 5 + 1)) = some (.string z1) := c1
      have c2' : W.cell? (a.add (i * 5 + 2)) = some (.int .i64 z2) := c2
      have c3' : W.cell? (a.add (i * 5 + 3)) = some (.int .i64 z3) := c3
      have c4' : W.cell? (a.add (i * 5 + 4)) = some (.int .i64 z4) := c4
      exact ⟨by unfold cellStr; rw [c0'], by unfold cellStr; rw [c1'], by unfold cellInt; rw [c2'], by unfold cellInt; rw [c3'], by unfold cellInt; rw [c4']⟩
    rcases Nat.eq_zero_or_pos len with h0 | h0
    · exact .inl h0
    · right
      have hc := (cells 0 h0).1
      rw [Nat.zero_mul] at hc
      have ha0 : a.add 0 = a := by unfold Addr.add; simp
      rw [ha0] at hc
      obtain ⟨b, off, rfl, hlt, e⟩ := addr_of hc
      refine ⟨b, off, rfl, hlt, fun k hk => ?_⟩
      obtain ⟨c0, c1, c2, c3, c4⟩ := cells k hk
      rw [e] at c0 c1 c2 c3 c4
      rw [← Nat.add_assoc] at c1 c2 c3 c4
      exact ⟨by rw [c0, ← e], by rw [c1, Nat.add_assoc, ← e], by rw [c2, Nat.add_assoc, ← e], by rw [c3, Nat.add_assoc, ← e], by rw [c4, Nat.add_assoc, ← e]⟩
end
end Go.Proofs.YtigocjhmgmhocaaGreatDoor
namespace Go.Proofs.YtigocjhmgmhocaaGreatDoor.permitTextsRow
open Go.RowKit Go.WideShapes Go.ChangeShapes Go.ChangeAt Go.Deep Go.Joins
set_option linter.unusedVariables false
set_option linter.unusedSimpArgs false

theorem star_es : "*" ++ "errors.errorString" = "*errors.errorString" := by decide
theorem row_es (u : TypeId) (h : Tryz.prog.typeName? 3 u = some "*errors.errorString") : u = 178 :=
  typeName_ptr_named (nm := "errors.errorString") (by rw [star_es]; kernel_rfl) (by kernel_rfl) (by decide) u (by rw [star_es]; exact h)
set_option maxRecDepth 100000 in
/-- What the listed variables give. -/
theorem env_of_laid {W : World} (h : laidMetH Tryz.prog Rows.permitTextsRow.laid W) : Env5 W := by
  rw [MakeChecks.laidMetH_plain _ _ _ (by kernel_rfl)] at h
  have h3 : laidMet Tryz.prog (("internal/strconv.uint64pow10", Lib.tabData .u64 Lib.pow10Tab) :: [("unicode/utf8.acceptRanges", Rows.laid_unicode_utf8_acceptRanges), ("strconv.ErrRange", Rows.laid_strconv_ErrRange), ("strconv.ErrSyntax", Rows.laid_strconv_ErrSyntax), ("unicode/utf8.first", Rows.laid_unicode_utf8_first)]) W := (h.tail).tail
  have ht := Lib.tabIs_of_head (g := 0) (t := 142) (e := 119) (n := 20) (by kernel_rfl) (by kernel_rfl) Tryz.underlying142 Tryz.underlying119 (by kernel_rfl) (by kernel_rfl) h3
  obtain ⟨a1, s1, hv1, _⟩ := laid_sentinel h3.tail.tail (g := 3) (ti := 55) (tp := 178) (te := 180) (ts := 9) (by kernel_rfl) (by kernel_rfl) Tryz.underlying55 row_es Tryz.underlying178 Tryz.underlying180 rfl rfl Tryz.underlying9 (by kernel_rfl) (by kernel_rfl)
  obtain ⟨a2, s2, hv2, _⟩ := laid_sentinel h3.tail.tail.tail (g := 2) (ti := 55) (tp := 178) (te := 180) (ts := 9) (by kernel_rfl) (by kernel_rfl) Tryz.underlying55 row_es Tryz.underlying178 Tryz.underlying180 rfl rfl Tryz.underlying9 (by kernel_rfl) (by kernel_rfl)
  exact ⟨ht, ⟨_, _, hv2⟩, ⟨_, _, hv1⟩⟩
/-- A start that meets the condition. -/
theorem door_met (os : Os) (args : Array Value) : laidMetH Tryz.prog Rows.permitTextsRow.laid ((World.laidAll Tryz.prog os Rows.permitTextsRow.laid).forCall (fun _ _ => 0) ⟨#[], args, []⟩).memory := by
  rw [MakeChecks.laidMetH_plain _ _ _ (by kernel_rfl)]
  exact laidMet_laidAll _ (by kernel_rfl) (by kernel_rfl)
end Go.Proofs.YtigocjhmgmhocaaGreatDoor.permitTextsRow

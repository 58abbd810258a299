/- Slices of permits, and slices of slices of events, among the arguments; what the listed variables give. -/
import Derived.Test.YtfldmnikdejekaaGreatDoorRows
import Derived.Test.YtfldmnikdejekaaGreatDoorStay
import Derived.Test.YtfldmnikdejekaaGreatDoorPmt
import Derived.Deep.Strs
import Derived.LaidMore
import Derived.Stop.Joined
import Derived.Stop.LaidErr
import Derived.Lib.LaidTab
namespace Go.Proofs.YtfldmnikdejekaaGreatDoor
open Go.RowKit Go.WideShapes Go.ChangeShapes Go.ChangeAt Go.Deep Go.Joins
set_option linter.unusedVariables false
set_option linter.unusedSimpArgs false

section
variable {H : Type} {enc : TypeId × Value → H} {P : Program} {w : World} {base : Nat} {spare : Nat → Bool} {held : Bool}
theorem open_slice_fields {t e : TypeId} {fs : Array Field} {fuel : Nat} {cs : List Value} {x : DataW H × List MemPlace} (ht : P.underlying t = some (.slice e)) (he : P.underlying e = some (.struct fs))
    (hone : oneCellFields P fs = true) (hC : P.cellsOf e = fs.size) (h : DataW.trod enc P w base spare held fuel t cs = some x) :
    (cs = [.slice none 0 0] ∧ x = (.nil, [])) ∨
    ∃ (a : Addr) (len cap m : Nat) (D : Nat → DataW H) (Pl : Nat → List MemPlace), cs = [.slice (some a) len cap] ∧ base ≤ a.block ∧ len ≤ cap ∧ cap ≤ maxLen ∧ m = (if spare a.block then cap else len) ∧
      x = (.slice ((List.range len).map D) ((List.range (m - len)).map fun j => D (len + j)), MemPlace.row a (m * fs.size) ++ (List.range m).flatMap Pl) ∧
      ∀ i, i < m → ∃ (ys : List (DataW H × List MemPlace)) (n : Nat), D i = .agg (ys.map (·.1)) ∧ Pl i = ys.flatMap (·.2) ∧ ys.length = fs.size ∧
        ∀ (j : Nat) (f : Field), fs[j]? = some f → ∃ (v : Value) (y : DataW H × List MemPlace), w.cell? (a.add (i * fs.size + j)) = some v ∧ ys[j]? = some y ∧ DataW.trod enc P w base spare held n f.type [v] = some y := by
  rcases open_slice ht h with h0 | ⟨a, len, cap, m, n, D, Pl, hcs, hb, hl, hm, hmm, hx, hi⟩
  · exact .inl h0
  · refine .inr ⟨a, len, cap, m, D, Pl, hcs, hb, hl, hm, hmm, by rw [hC] at hx; exact hx, fun i him => ?_⟩
    obtain ⟨cs', hc, ht'⟩ := hi i him
    rw [hC] at hc
    obtain ⟨ys, n', hn', hy, hlen, hyl, hf⟩ := DataW.trod_struct he ht'
    obtain ⟨_, hcl, hat⟩ := World.cells?_some hc
    simp only [Prod.mk.injEq] at hy
    refine ⟨ys, n', hy.1, hy.2, hyl, fun j f hj => ?_⟩
    obtain ⟨ho, hk⟩ := hone_of hone j f hj
    have hjl : j < fs.size := (Array.getElem?_eq_some_iff.1 hj).1
    have hcell := hat j hjl
    have hv : cs'[j]? = some (cs'[j]'(by omega)) := List.getElem?_eq_getElem (by omega)
    have h1 := hf j f hj
    rw [ho, hk] at h1
    have hone' : (cs'.drop j).take 1 = [cs'[j]'(by omega)] := by
      rw [List.drop_eq_getElem_cons (by omega)]
      rfl
    rw [hone'] at h1
    have hys : ys[j]? = some (ys[j]'(by omega)) := List.getElem?_eq_getElem (by omega)
    refine ⟨_, _, ?_, hys, h1.trans hys⟩
    rw [← Go.Deep.add_add, hcell, hv]
end


def cellInt (w : World) (a : Addr) : Int := match w.cell? a with
  | some (.int _ z) => z
  | _ => 0
def cellStr (w : World) (a : Addr) : ByteArray := match w.cell? a with
  | some (.string z) => z
  | _ => ByteArray.empty
theorem addr_of {W : World} {a : Addr} {v : Value} (hc : W.cell? a = some v) : ∃ b off, a = ⟨b, off, none⟩ ∧ b < W.heap.size ∧ ∀ i, (⟨b, off, none⟩ : Addr).add i = ⟨b, off + i, none⟩ := by
  have hlt := World.block_lt_of_cell? W _ hc
  obtain ⟨b, off, sp⟩ := a
  have hsp : sp = none := by
    cases sp with
    | none => rfl
    | some q => simp [World.cell?] at hc; split at hc <;> simp at hc
  subst hsp
  refine ⟨b, off, rfl, hlt, fun i => ?_⟩
  unfold Addr.add
  by_cases hi : i = 0
  · simp [hi]
  · simp [hi]
section
variable {H : Type} {enc : TypeId × Value → H} {W : World}
set_option maxRecDepth 100000 in
theorem open_events_t {fuel : Nat} {v : Value} {x : DataW H × List MemPlace} (hf : DataW.trod enc Tryz.prog W 0 (fun _ => true) true fuel 70 [v] = some x) :
    ∃ (A : Option Addr) (n c : Nat) (E : Evs), v = .slice A n c ∧ n ≤ c ∧ EvIn W A n E := by
  rcases open_slice_fields Tryz.underlying70 Tryz.underlying144 (by kernel_rfl) (by kernel_rfl) hf with ⟨hcs, _⟩ | ⟨a, len, cap, m, D, Pl, hcs, hb, hl, hm, hmm, hx, hf⟩
  · have e : v = .slice none 0 0 := by simpa using hcs
    rw [e]
    exact ⟨none, 0, 0, ⟨fun _ => 0, fun _ => 0, fun _ => 0, fun _ => 0⟩, rfl, Nat.le_refl _, by omega, .inl rfl⟩
  · have e : v = .slice (some a) len cap := by simpa using hcs
    rw [e]
    unfold maxLen at hm
    simp only [if_true] at hmm
    refine ⟨some a, len, cap, ⟨fun i => cellInt W (a.add (i * 4)), fun i => cellInt W (a.add (i * 4 + 1)), fun i => cellInt W (a.add (i * 4 + 2)), fun i => cellInt W (a.add (i * 4 + 3))⟩, rfl, hl, by omega, ?_⟩
    have cells : ∀ i, i < len → W.cell? (a.add (i * 4)) = some (.int .i64 (cellInt W (a.add (i * 4)))) ∧ W.cell? (a.add (i * 4 + 1)) = some (.int .i64 (cellInt W (a.add (i * 4 + 1)))) ∧ W.cell? (a.add (i * 4 + 2)) = some (.int .i64 (cellInt W (a.add (i * 4 + 2)))) ∧ W.cell? (a.add (i * 4 + 3)) = some (.int .i64 (cellInt W (a.add (i * 4 + 3)))) := by
      intro i hi
      obtain ⟨ys, n', _, _, _, hfld⟩ := hf i (by omega)
      obtain ⟨v0, y0, c0, _, t0⟩ := hfld 0 _ rfl
      obtain ⟨v1, y1, c1, _, t1⟩ := hfld 1 _ rfl
      obtain ⟨v2, y2, c2, _, t2⟩ := hfld 2 _ rfl
      obtain ⟨v3, y3, c3, _, t3⟩ := hfld 3 _ rfl
      obtain ⟨z0, e0, _, _⟩ := DataW.trod_int Tryz.underlying3 t0
      obtain ⟨z1, e1, _, _⟩ := DataW.trod_int Tryz.underlying3 t1
      obtain ⟨z2, e2, _, _⟩ := DataW.trod_int Tryz.underlying3 t2
      obtain ⟨z3, e3, _, _⟩ := DataW.trod_int Tryz.underlying3 t3
      simp only [List.cons.injEq, and_true] at e0 e1 e2 e3
      subst e0 e1 e2 e3
      have c0' : W.cell? (a.add (i * 4)) = some (.int .i64 z0) := c0
      have c1' : W.cell? (a.add (i * 4 + 1)) = some (.int .i64 z1) := c1
      have c2' : W.cell? (a.add (i * 4 + 2)) = some (.int .i64 z2) := c2
      have c3' : W.cell? (a.add (i * 4 + 3)) = some (.int .i64 z3) := c3
      exact ⟨by unfold cellInt; rw [c0'], by unfold cellInt; rw [c1'], by unfold cellInt; rw [c2'], by unfold cellInt; rw [c3']⟩
    rcases Nat.eq_zero_or_pos len with h0 | h0
    · exact .inl h0
    · right
      have hc := (cells 0 h0).1
      rw [Nat.zero_mul] at hc
      have ha0 : a.add 0 = a := by unfold Addr.add; simp
      rw [ha0] at hc
      obtain ⟨b, off, rfl, hlt, e⟩ := addr_of hc
      refine ⟨b, off, rfl, hlt, fun k hk => ?_⟩
      obtain ⟨c0, c1, c2, c3⟩ := cells k hk
      rw [e] at c0 c1 c2 c3
      rw [← Nat.add_assoc] at c1 c2 c3
      exact ⟨by rw [c0, ← e], by rw [c1, Nat.add_assoc, ← e], by rw [c2, Nat.add_assoc, ← e], by rw [c3, Nat.add_assoc, ← e]⟩
set_option maxRecDepth 100000 in
/-- A slice of permits. -/
theorem open_permits {b0 : Nat} {v : Value} {d : DataW H} {p : List MemPlace} (hv : Value.okWide Tryz.prog W .any b0 83 v) (h : DataW.Trod enc Tryz.prog W 0 (fun _ => true) true 83 v d p) :
    ∃ (A : Option Addr) (n c : Nat) (P : Pms), v = .slice A n c ∧ PmIn W A n P := by
  obtain ⟨a0, len0, cap0, rfl⟩ := okWide_slice Tryz.underlying83 hv
  obtain ⟨fuel, hf⟩ := h
  rcases open_slice_fields Tryz.underlying83 Tryz.underlying87 (by kernel_rfl) (by kernel_rfl) hf with ⟨hcs, _⟩ | ⟨a, len, cap, m, D, Pl, hcs, hb, hl, hm, hmm, hx, hf⟩
  · have e : Value.slice a0 len0 cap0 = .slice none 0 0 := by simpa [Value.cells] using hcs
    rw [e]
    exact ⟨none, 0, 0, ⟨fun _ => ByteArray.empty, fun _ => ByteArray.empty, fun _ => 0, fun _ => 0, fun _ => 0⟩, rfl, by omega, .inl rfl⟩
  · have e : Value.slice a0 len0 cap0 = .slice (some a) len cap := by simpa [Value.cells] using hcs
    rw [e]
    unfold maxLen at hm
    simp only [if_true] at hmm
    refine ⟨some a, len, cap, ⟨fun i => cellStr W (a.add (i * 5)), fun i => cellStr W (a.add (i * 5 + 1)), fun i => cellInt W (a.add (i * 5 + 2)), fun i => cellInt W (a.add (i * 5 + 3)), fun i => cellInt W (a.add (i * 5 + 4))⟩, rfl, by omega, ?_⟩
    have cells : ∀ i, i < len → W.cell? (a.add (i * 5)) = some (.string (cellStr W (a.add (i * 5)))) ∧ W.cell? (a.add (i * 5 + 1)) = some (.string (cellStr W (a.add (i * 5 + 1)))) ∧ W.cell? (a.add (i * 5 + 2)) = some (.int .i64 (cellInt W (a.add (i * 5 + 2)))) ∧ W.cell? (a.add (i * 5 + 3)) = some (.int .i64 (cellInt W (a.add (i * 5 + 3)))) ∧ W.cell? (a.add (i * 5 + 4)) = some (.int .i64 (cellInt W (a.add (i * 5 + 4)))) := by
      intro i hi
      obtain ⟨ys, n', _, _, _, hfld⟩ := hf i (by omega)
      obtain ⟨v0, y0, c0, _, t0⟩ := hfld 0 _ rfl
      obtain ⟨v1, y1, c1, _, t1⟩ := hfld 1 _ rfl
      obtain ⟨v2, y2, c2, _, t2⟩ := hfld 2 _ rfl
      obtain ⟨v3, y3, c3, _, t3⟩ := hfld 3 _ rfl
      obtain ⟨v4, y4, c4, _, t4⟩ := hfld 4 _ rfl
      obtain ⟨z0, e0, _, _⟩ := DataW.trod_string Tryz.underlying9 t0
      obtain ⟨z1, e1, _, _⟩ := DataW.trod_string Tryz.underlying9 t1
      obtain ⟨z2, e2, _, _⟩ := DataW.trod_int Tryz.underlying3 t2
      obtain ⟨z3, e3, _, _⟩ := DataW.trod_int Tryz.underlying3 t3
      obtain ⟨z4, e4, _, _⟩ := DataW.trod_int Tryz.underlying3 t4
      simp only [List.cons.injEq, and_true] at e0 e1 e2 e3 e4
      subst e0 e1 e2 e3 e4
      have c0' : W.cell? (a.add (i * 5)) = some (.string z0) := c0
      have c1' : W.cell? (a.add (i * 5 + 1)) = some (.string z1) := c1
      have c2' : W.cell? (a.add (i * 5 + 2)) = some (.int .i64 z2) := c2
      have c3' : W.cell? (a.add (i * 5 + 3)) = some (.int .i64 z3) := c3
      have c4' : W.cell? (a.add (i * 5 + 4)) = some (.int .i64 z4) := c4
      exact ⟨by unfold cellStr; rw [c0'], by unfold cellStr; rw [c1'], by unfold cellInt; rw [c2'], by unfold cellInt; rw [c3'], by unfold cellInt; rw [c4']⟩
    rcases Nat.eq_zero_or_pos len with h0 | h0
    · exact .inl h0
    · right
      have hc := (cells 0 h0).1
      rw [Nat.zero_mul] at hc
      have ha0 : a.add 0 = a := by unfold Addr.add; simp
      rw [ha0] at hc
      obtain ⟨b, off, rfl, hlt, e⟩ := addr_of hc
      refine ⟨b, off, rfl, hlt, fun k hk => ?_⟩
      obtain ⟨c0, c1, c2, c3, c4⟩ := cells k hk
      rw [e] at c0 c1 c2 c3 c4
      rw [← Nat.add_assoc] at c1 c2 c3 c4
      exact ⟨by rw [c0, ← e], by rw [c1, Nat.add_assoc, ← e], by rw [c2, Nat.add_assoc, ← e], by rw [c3, Nat.add_assoc, ← e], by rw [c4, Nat.add_assoc, ← e]⟩
noncomputable def evAt (W : World) (a : Addr) : Option Addr × Nat × Nat := match W.cell? a with
  | some (.slice A n c) => (A, n, c)
  | _ => (none, 0, 0)
open Classical in
noncomputable def evOf (W : World) (A : Option Addr) (n : Nat) : Evs := if h : ∃ E, EvIn W A n E then h.choose else ⟨fun _ => 0, fun _ => 0, fun _ => 0, fun _ => 0⟩
theorem evOf_in {W : World} {A : Option Addr} {n : Nat} {E : Evs} (h : EvIn W A n E) : EvIn W A n (evOf W A n) := by
  unfold evOf
  rw [dif_pos ⟨E, h⟩]
  exact (⟨E, h⟩ : ∃ E, EvIn W A n E).choose_spec
set_option maxRecDepth 100000 in
/-- A slice of slices of events. -/
theorem open_evlists {b0 : Nat} {v : Value} {d : DataW H} {p : List MemPlace} (hv : Value.okWide Tryz.prog W .any b0 84 v) (h : DataW.Trod enc Tryz.prog W 0 (fun _ => true) true 84 v d p) :
    ∃ (A : Option Addr) (n c : Nat) (L : Evl), v = .slice A n c ∧ ElIn W A n L := by
  obtain ⟨a0, len0, cap0, rfl⟩ := okWide_slice Tryz.underlying84 hv
  obtain ⟨fuel, hf⟩ := h
  have hC : Tryz.prog.cellsOf 70 = 1 := by kernel_rfl
  rcases open_slice Tryz.underlying84 hf with ⟨hcs, _⟩ | ⟨a, len, cap, m, n, D, Pl, hcs, hb, hl, hm, hmm, hx, hi⟩
  · have e : Value.slice a0 len0 cap0 = .slice none 0 0 := by simpa [Value.cells] using hcs
    rw [e]
    exact ⟨none, 0, 0, ⟨fun _ => none, fun _ => 0, fun _ => 0, fun _ => ⟨fun _ => 0, fun _ => 0, fun _ => 0, fun _ => 0⟩⟩, rfl, by omega, .inl rfl⟩
  · have e : Value.slice a0 len0 cap0 = .slice (some a) len cap := by simpa [Value.cells] using hcs
    rw [e]
    unfold maxLen at hm
    simp only [if_true] at hmm
    refine ⟨some a, len, cap, ⟨fun i => (evAt W (a.add i)).1, fun i => (evAt W (a.add i)).2.1, fun i => (evAt W (a.add i)).2.2, fun i => evOf W (evAt W (a.add i)).1 (evAt W (a.add i)).2.1⟩, rfl, by omega, ?_⟩
    have cells : ∀ i, i < len → ∃ (A : Option Addr) (n c : Nat) (E : Evs), W.cell? (a.add i) = some (.slice A n c) ∧ n ≤ c ∧ EvIn W A n E := by
      intro i him
      obtain ⟨cs', hc, ht'⟩ := hi i (by omega)
      rw [hC] at hc
      obtain ⟨_, hcl, hat⟩ := World.cells?_some hc
      have h0 := hat 0 (by omega)
      match cs', hcl with
      | [u], _ =>
        obtain ⟨A, n, c, E, rfl, hnc, hE⟩ := open_events_t ht'
        refine ⟨A, n, c, E, ?_, hnc, hE⟩
        rw [Nat.mul_one] at h0
        have ha0 : (a.add i).add 0 = a.add i := by unfold Addr.add; simp
        rw [ha0] at h0
        rw [h0]; rfl
    rcases Nat.eq_zero_or_pos len with h0 | h0
    · exact .inl h0
    · right
      obtain ⟨_, _, _, _, hc, _⟩ := cells 0 h0
      have ha0 : a.add 0 = a := by unfold Addr.add; simp
      rw [ha0] at hc
      obtain ⟨b, off, rfl, hlt, e⟩ := addr_of hc
      refine ⟨b, off, rfl, hlt, fun k hk => ?_⟩
      obtain ⟨A, n, c, E, h1, h2, h3⟩ := cells k hk
      have hv : evAt W ((⟨b, off, none⟩ : Addr).add k) = (A, n, c) := by unfold evAt; rw [h1]
      show W.cell? ⟨b, off + k, none⟩ = some (.slice (evAt W _).1 (evAt W _).2.1 (evAt W _).2.2) ∧ EvIn W (evAt W _).1 (evAt W _).2.1 (evOf W (evAt W _).1 (evAt W _).2.1) ∧ (evAt W _).2.1 ≤ (evAt W _).2.2
      rw [hv]
      exact ⟨by rw [← e]; exact h1, evOf_in h3, h2⟩
end

theorem star_es : "*" ++ "errors.errorString" = "*errors.errorString" := by decide
theorem row_es (u : TypeId) (h : Tryz.prog.typeName? 3 u = some "*errors.errorString") : u = 324 :=
  typeName_ptr_named (nm := "errors.errorString") (by rw [star_es]; kernel_rfl) (by kernel_rfl) (by decide) u (by rw [star_es]; exact h)
set_option maxRecDepth 100000 in
/-- What the listed variables give. -/
theorem env_of_laid {W : World} (h : laidMetH Tryz.prog Rows.reportsPermitsRow.laid W) : Env5 W := by
  rw [MakeChecks.laidMetH_plain _ _ _ (by kernel_rfl)] at h
  have h3 : laidMet Tryz.prog (("internal/strconv.uint64pow10", Lib.tabData .u64 Lib.pow10Tab) :: [("strconv.ErrRange", Rows.laid_strconv_ErrRange), ("strconv.ErrSyntax", Rows.laid_strconv_ErrSyntax)]) W := (h.tail).tail
  have ht := Lib.tabIs_of_head (g := 3) (t := 328) (e := 244) (n := 20) (by kernel_rfl) (by kernel_rfl) Tryz.underlying328 Tryz.underlying244 (by kernel_rfl) (by kernel_rfl) h3
  obtain ⟨a1, s1, hv1, _⟩ := laid_sentinel h3.tail (g := 2) (ti := 153) (tp := 324) (te := 326) (ts := 9) (by kernel_rfl) (by kernel_rfl) Tryz.underlying153 row_es Tryz.underlying324 Tryz.underlying326 rfl rfl Tryz.underlying9 (by kernel_rfl) (by kernel_rfl)
  obtain ⟨a2, s2, hv2, _⟩ := laid_sentinel h3.tail.tail (g := 1) (ti := 153) (tp := 324) (te := 326) (ts := 9) (by kernel_rfl) (by kernel_rfl) Tryz.underlying153 row_es Tryz.underlying324 Tryz.underlying326 rfl rfl Tryz.underlying9 (by kernel_rfl) (by kernel_rfl)
  exact ⟨ht, ⟨_, _, hv2⟩, ⟨_, _, hv1⟩⟩
/-- The door's own heap meets the condition. -/
theorem door_met (os : Os) (args : Array Value) : laidMetH Tryz.prog Rows.reportsPermitsRow.laid ((World.doorLaid Tryz.prog 4000 os).forCall (fun _ _ => 0) ⟨#[], args, []⟩).memory :=
  laidMetH_of_parts3 (fuel := 8) (laidMet_of_run' 8 (by kernel_rfl) (by kernel_rfl)) (by kernel_rfl) (by kernel_rfl)
end Go.Proofs.YtfldmnikdejekaaGreatDoor

/- Catalogues, strings, and spans, among the arguments. -/
import Derived.Test.YtdgfljkhnifemaaGreatDoorOpenL
import Derived.Test.YtdgfljkhnifemaaGreatDoorSct
namespace Go.Proofs.YtdgfljkhnifemaaGreatDoor
open Go.RowKit Go.WideShapes Go.ChangeShapes Go.ChangeAt Go.Deep Go.Joins
set_option linter.unusedVariables false
set_option linter.unusedSimpArgs false

section
variable {H : Type} {enc : TypeId × Value → H} {W : World}
set_option maxRecDepth 100000 in
theorem open_section_cells {fuel : Nat} {vs : List Value} {y : DataW H × List MemPlace} (h : DataW.trod enc Tryz.prog W 0 (fun _ => true) true fuel 65 vs = some y) :
    ∃ (Nm : ByteArray) (Ht : Int) (Pr : Int) (AA : Option Addr) (AN AC : Nat) (AX AY : Nat → Int) (BA : Option Addr) (BN BC : Nat) (BX BY : Nat → Int), vs = [.string Nm, .int .i64 Ht, .int .i64 Pr, .slice AA AN AC, .slice BA BN BC] ∧ TabIn W AA AN AX AY ∧ TabIn W BA BN BX BY := by
  obtain ⟨ys, m, _, _, hl, hyl, hf⟩ := DataW.trod_struct Tryz.underlying65 h
  have hl9 : vs.length = 5 := hl.trans (by kernel_rfl)
  have hyl8 : ys.length = 5 := hyl
  match vs, hl9 with
  | [v0, v1, v2, v3, v4], _ =>
  match ys, hyl8 with
  | [y0, y1, y2, y3, y4], _ =>
    have f0 : DataW.trod enc Tryz.prog W 0 (fun _ => true) true m 9 [v0] = some y0 := by simpa [cS, cI, cB, cT, cP] using hf 0 _ rfl
    obtain ⟨Nm, e0, _, _⟩ := DataW.trod_string Tryz.underlying9 f0
    have f1 : DataW.trod enc Tryz.prog W 0 (fun _ => true) true m 3 [v1] = some y1 := by simpa [cS, cI, cB, cT, cP] using hf 1 _ rfl
    obtain ⟨Ht, e1, _, _⟩ := DataW.trod_int Tryz.underlying3 f1
    have f2 : DataW.trod enc Tryz.prog W 0 (fun _ => true) true m 3 [v2] = some y2 := by simpa [cS, cI, cB, cT, cP] using hf 2 _ rfl
    obtain ⟨Pr, e2, _, _⟩ := DataW.trod_int Tryz.underlying3 f2
    have f3 : DataW.trod enc Tryz.prog W 0 (fun _ => true) true m 46 [v3] = some y3 := by simpa [cS, cI, cB, cT, cP] using hf 3 _ rfl
    obtain ⟨AA, AN, AC, AX, AY, e3, h3⟩ := open_tab_cells f3
    have f4 : DataW.trod enc Tryz.prog W 0 (fun _ => true) true m 46 [v4] = some y4 := by simpa [cS, cI, cB, cT, cP] using hf 4 _ rfl
    obtain ⟨BA, BN, BC, BX, BY, e4, h4⟩ := open_tab_cells f4
    simp only [List.cons.injEq, and_true] at e0 e1 e2
    subst e0; subst e1; subst e2; subst e3; subst e4
    exact ⟨Nm, Ht, Pr, AA, AN, AC, AX, AY, BA, BN, BC, BX, BY, rfl, h3, h4⟩
set_option maxRecDepth 100000 in
theorem open_section_slice {fuel : Nat} {v : Value} {x : DataW H × List MemPlace} (hf : DataW.trod enc Tryz.prog W 0 (fun _ => true) true fuel 26 [v] = some x) :
    ∃ (A : Option Addr) (n c : Nat) (D : Scs), v = .slice A n c ∧ ScIn W A n D := by
  rcases open_slice Tryz.underlying26 hf with ⟨hcs, _⟩ | ⟨a, len, cap, m, n, D, Pl, hcs, hb, hl, hm, hmm, hx, hi⟩
  · obtain rfl : v = .slice none 0 0 := by simpa using hcs
    exact ⟨none, 0, 0, ⟨fun _ => ByteArray.empty, fun _ => 0, fun _ => 0, fun _ => none, fun _ => 0, fun _ => 0, fun _ _ => 0, fun _ _ => 0, fun _ => none, fun _ => 0, fun _ => 0, fun _ _ => 0, fun _ _ => 0⟩, rfl, by omega, .inl rfl⟩
  · obtain rfl : v = .slice (some a) len cap := by simpa using hcs
    unfold maxLen at hm
    simp only [if_true] at hmm
    have hC : Tryz.prog.cellsOf 65 = 5 := by kernel_rfl
    refine ⟨some a, len, cap, ⟨fun i => cStr W (a.add (i * 5 + 0)), fun i => cInt W (a.add (i * 5 + 1)), fun i => cInt W (a.add (i * 5 + 2)), fun i => (cSl W (a.add (i * 5 + 3))).1, fun i => (cSl W (a.add (i * 5 + 3))).2.1, fun i => (cSl W (a.add (i * 5 + 3))).2.2, fun i => (tabOf W (cSl W (a.add (i * 5 + 3))).1 (cSl W (a.add (i * 5 + 3))).2.1).1, fun i => (tabOf W (cSl W (a.add (i * 5 + 3))).1 (cSl W (a.add (i * 5 + 3))).2.1).2, fun i => (cSl W (a.add (i * 5 + 4))).1, fun i => (cSl W (a.add (i * 5 + 4))).2.1, fun i => (cSl W (a.add (i * 5 + 4))).2.2, fun i => (tabOf W (cSl W (a.add (i * 5 + 4))).1 (cSl W (a.add (i * 5 + 4))).2.1).1, fun i => (tabOf W (cSl W (a.add (i * 5 + 4))).1 (cSl W (a.add (i * 5 + 4))).2.1).2⟩, rfl, by omega, ?_⟩
    have cells : ∀ i, i < len → (∀ j v, ([.string (cStr W (a.add (i * 5 + 0))), .int .i64 (cInt W (a.add (i * 5 + 1))), .int .i64 (cInt W (a.add (i * 5 + 2))), .slice (cSl W (a.add (i * 5 + 3))).1 (cSl W (a.add (i * 5 + 3))).2.1 (cSl W (a.add (i * 5 + 3))).2.2, .slice (cSl W (a.add (i * 5 + 4))).1 (cSl W (a.add (i * 5 + 4))).2.1 (cSl W (a.add (i * 5 + 4))).2.2] : List Value)[j]? = some v → W.cell? (a.add (i * 5 + j)) = some v) ∧ TabIn W (cSl W (a.add (i * 5 + 3))).1 (cSl W (a.add (i * 5 + 3))).2.1 (tabOf W (cSl W (a.add (i * 5 + 3))).1 (cSl W (a.add (i * 5 + 3))).2.1).1 (tabOf W (cSl W (a.add (i * 5 + 3))).1 (cSl W (a.add (i * 5 + 3))).2.1).2 ∧ TabIn W (cSl W (a.add (i * 5 + 4))).1 (cSl W (a.add (i * 5 + 4))).2.1 (tabOf W (cSl W (a.add (i * 5 + 4))).1 (cSl W (a.add (i * 5 + 4))).2.1).1 (tabOf W (cSl W (a.add (i * 5 + 4))).1 (cSl W (a.add (i * 5 + 4))).2.1).2 := by
      intro i him
      obtain ⟨cs', hc, ht'⟩ := hi i (by omega)
      rw [hC] at hc
      obtain ⟨_, hcl, hat0⟩ := World.cells?_some hc
      obtain ⟨Nm, Ht, Pr, AA, AN, AC, AX, AY, BA, BN, BC, BX, BY, rfl, hAA, hBA⟩ := open_section_cells ht'
      have hat : ∀ j v, ([.string Nm, .int .i64 Ht, .int .i64 Pr, .slice AA AN AC, .slice BA BN BC] : List Value)[j]? = some v → W.cell? (a.add (i * 5 + j)) = some v := fun j v hj => by
        have hjl : j < 5 := by
          have := (List.getElem?_eq_some_iff.1 hj).1
          simpa using this
        rw [← Go.Deep.add_add, hat0 j hjl]
        exact hj
      rw [cStr_of (hat 0 _ rfl), cInt_of (hat 1 _ rfl), cInt_of (hat 2 _ rfl), cSl_of (hat 3 _ rfl), cSl_of (hat 4 _ rfl)]
      exact ⟨hat, tabOf_in hAA, tabOf_in hBA⟩
    rcases Nat.eq_zero_or_pos len with h0 | h0
    · exact .inl h0
    · right
      have hc := (cells 0 h0).1 0 _ rfl
      rw [Nat.zero_mul] at hc
      have ha0 : a.add (0 + 0) = a := by unfold Addr.add; simp
      rw [ha0] at hc
      obtain ⟨b, off, rfl, hlt, e⟩ := addr_at hc
      refine ⟨b, off, rfl, hlt, fun k hk => ?_⟩
      have hck := cells k hk
      refine ⟨fun j v hj => ?_, hck.2⟩
      have := hck.1 j v hj
      rw [e, ← Nat.add_assoc] at this
      exact this
set_option maxRecDepth 100000 in
theorem open_span_cells {fuel : Nat} {v : Value} {x : DataW H × List MemPlace} (hf : DataW.trod enc Tryz.prog W 0 (fun _ => true) true fuel 28 [v] = some x) :
    ∃ (A : Option Addr) (n c : Nat) (X Y : Nat → Int), v = .slice A n c ∧ TabIn W A n X Y := by
  rcases open_slice Tryz.underlying28 hf with ⟨hcs, _⟩ | ⟨a, len, cap, m, n, D, Pl, hcs, hb, hl, hm, hmm, hx, hi⟩
  · obtain rfl : v = .slice none 0 0 := by simpa using hcs
    exact ⟨none, 0, 0, fun _ => 0, fun _ => 0, rfl, by omega, .inl rfl⟩
  · obtain rfl : v = .slice (some a) len cap := by simpa using hcs
    unfold maxLen at hm
    simp only [if_true] at hmm
    have hC : Tryz.prog.cellsOf 53 = 2 := by kernel_rfl
    refine ⟨some a, len, cap, fun i => cInt W (a.add (i * 2)), fun i => cInt W (a.add (i * 2 + 1)), rfl, by omega, ?_⟩
    have cells : ∀ i, i < len → W.cell? (a.add (i * 2)) = some (.int .i64 (cInt W (a.add (i * 2)))) ∧ W.cell? (a.add (i * 2 + 1)) = some (.int .i64 (cInt W (a.add (i * 2 + 1)))) := by
      intro i him
      obtain ⟨cs', hc, ht'⟩ := hi i (by omega)
      rw [hC] at hc
      obtain ⟨_, hcl, hat⟩ := World.cells?_some hc
      obtain ⟨ys, m', _, _, hl', hyl, hf'⟩ := DataW.trod_struct Tryz.underlying53 ht'
      have hyl2 : ys.length = 2 := hyl
      have h0 := hat 0 (by omega)
      have h1 := hat 1 (by omega)
      match cs', hcl with
      | [u0, u1], _ =>
        match ys, hyl2 with
        | [y0, y1], _ =>
          have f0 : DataW.trod enc Tryz.prog W 0 (fun _ => true) true m' 3 [u0] = some y0 := by simpa [cI] using hf' 0 _ rfl
          have f1 : DataW.trod enc Tryz.prog W 0 (fun _ => true) true m' 3 [u1] = some y1 := by simpa [cI] using hf' 1 _ rfl
          obtain ⟨z0, e0, _, _⟩ := DataW.trod_int Tryz.underlying3 f0
          obtain ⟨z1, e1, _, _⟩ := DataW.trod_int Tryz.underlying3 f1
          simp only [List.cons.injEq, and_true] at e0 e1
          subst e0 e1
          rw [Go.Deep.add_add] at h0 h1
          have h0 : W.cell? (a.add (i * 2)) = some (.int .i64 z0) := h0
          have h1 : W.cell? (a.add (i * 2 + 1)) = some (.int .i64 z1) := h1
          rw [cInt_of h0, cInt_of h1]
          exact ⟨h0, h1⟩
    rcases Nat.eq_zero_or_pos len with h0 | h0
    · exact .inl h0
    · right
      have hc := (cells 0 h0).1
      rw [Nat.zero_mul] at hc
      have ha0 : a.add 0 = a := by unfold Addr.add; simp
      rw [ha0] at hc
      obtain ⟨b, off, rfl, hlt, e⟩ := addr_at hc
      refine ⟨b, off, rfl, hlt, fun k hk => ?_⟩
      obtain ⟨c1, c2⟩ := cells k hk
      refine ⟨?_, ?_⟩
      · rw [← e]; exact c1
      · rw [Nat.add_assoc, ← e]; exact c2
set_option maxRecDepth 100000 in
theorem open_strs55c {b0 : Nat} {v : Value} {d : DataW H} {p : List MemPlace} (hv : Value.okWide Tryz.prog W .any b0 27 v) (h : DataW.Trod enc Tryz.prog W 0 (fun _ => true) true 27 v d p) :
    ∃ (A : Option Addr) (n c : Nat) (X : Nat → ByteArray), v = .slice A n c ∧ n ≤ c ∧ StrIn W A n X := by
  obtain ⟨a0, len0, cap0, rfl⟩ := okWide_slice Tryz.underlying27 hv
  obtain ⟨fuel, hf⟩ := h
  rcases open_strs Tryz.underlying27 Tryz.underlying9 (by kernel_rfl) hf with ⟨hcs, _⟩ | ⟨a, len, cap, m, Sx, hcs, hb, hl, hm, hmm, hx, hc⟩
  · have e : Value.slice a0 len0 cap0 = .slice none 0 0 := by simpa [Value.cells] using hcs
    rw [e]
    exact ⟨none, 0, 0, fun _ => ByteArray.empty, rfl, Nat.le_refl _, by omega, .inl rfl⟩
  · have e : Value.slice a0 len0 cap0 = .slice (some a) len cap := by simpa [Value.cells] using hcs
    rw [e]
    unfold maxLen at hm
    simp only [if_true] at hmm
    refine ⟨some a, len, cap, Sx, rfl, hl, by omega, ?_⟩
    rcases Nat.eq_zero_or_pos len with h0 | h0
    · exact .inl h0
    · right
      have hc0 := (hc 0 (by omega)).1
      have hlt := World.block_lt_of_cell? W _ hc0
      obtain ⟨b, off, sp⟩ := a
      have hsp : sp = none := by
        cases sp with
        | none => rfl
        | some q => simp [Addr.add, World.cell?] at hc0; split at hc0 <;> simp at hc0
      subst hsp
      have e : ∀ i, (⟨b, off, none⟩ : Addr).add i = ⟨b, off + i, none⟩ := fun i => by
        unfold Addr.add
        by_cases hi : i = 0
        · simp [hi]
        · simp [hi]
      refine ⟨b, off, rfl, by simpa [Addr.add] using hlt, fun k hk => ?_⟩
      have := (hc k (by omega)).1
      rw [e] at this
      exact this
set_option maxRecDepth 100000 in
/-- A slice of sections. -/
theorem open_sections {b0 : Nat} {v : Value} {d : DataW H} {p : List MemPlace} (hv : Value.okWide Tryz.prog W .any b0 26 v) (h : DataW.Trod enc Tryz.prog W 0 (fun _ => true) true 26 v d p) :
    ∃ (A : Option Addr) (n c : Nat) (C : Scs), v = .slice A n c ∧ ScIn W A n C := by
  obtain ⟨a, len, cap, rfl⟩ := okWide_slice Tryz.underlying26 hv
  obtain ⟨fuel, hf⟩ := h
  exact open_section_slice (v := .slice a len cap) (by simpa [Value.cells] using hf)
set_option maxRecDepth 100000 in
/-- A slice of spans. -/
theorem open_spans {b0 : Nat} {v : Value} {d : DataW H} {p : List MemPlace} (hv : Value.okWide Tryz.prog W .any b0 28 v) (h : DataW.Trod enc Tryz.prog W 0 (fun _ => true) true 28 v d p) :
    ∃ (A : Option Addr) (n c : Nat) (X Y : Nat → Int), v = .slice A n c ∧ TabIn W A n X Y := by
  obtain ⟨a, len, cap, rfl⟩ := okWide_slice Tryz.underlying28 hv
  obtain ⟨fuel, hf⟩ := h
  exact open_span_cells (v := .slice a len cap) (by simpa [Value.cells] using hf)
end
end Go.Proofs.YtdgfljkhnifemaaGreatDoor

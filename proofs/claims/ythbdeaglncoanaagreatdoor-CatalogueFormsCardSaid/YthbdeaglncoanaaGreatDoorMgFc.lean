/- Merged texts of these proofs: FmO, FmQ. -/
import Derived.Test.YthbdeaglncoanaaGreatDoorRows
import Derived.Test.YthbdeaglncoanaaGreatDoorStay
import Derived.Test.YthbdeaglncoanaaGreatDoorMgFa
import Derived.Deep.Strs
import Derived.Handed
import Derived.Test.YthbdeaglncoanaaGreatDoorBase
import Derived.Test.YthbdeaglncoanaaGreatDoorShelf
import Derived.Test.YthbdeaglncoanaaGreatDoorEnv
import Derived.LaidMore
import Derived.Lay
import Derived.Stop.Joined
import Derived.Stop.LaidErr
import Derived.Lib.LaidTab
namespace Go.Proofs.YthbdeaglncoanaaGreatDoor
open Go.RowKit Go.WideShapes Go.ChangeShapes Go.ChangeAt Go.Deep Go.Joins
set_option linter.unusedVariables false
set_option linter.unusedSimpArgs false

def cInt (w : World) (a : Addr) : Int := match w.cell? a with
  | some (.int _ z) => z
  | _ => 0
def cStr (w : World) (a : Addr) : ByteArray := match w.cell? a with
  | some (.string z) => z
  | _ => ByteArray.empty
def cSl (W : World) (a : Addr) : Option Addr × Nat × Nat := match W.cell? a with
  | some (.slice A n c) => (A, n, c)
  | _ => (none, 0, 0)
theorem cInt_of {w : World} {a : Addr} {k : IntKind} {z : Int} (h : w.cell? a = some (.int k z)) : cInt w a = z := by unfold cInt; rw [h]
theorem cStr_of {w : World} {a : Addr} {z : ByteArray} (h : w.cell? a = some (.string z)) : cStr w a = z := by unfold cStr; rw [h]
theorem cSl_of {w : World} {a : Addr} {A : Option Addr} {n c : Nat} (h : w.cell? a = some (.slice A n c)) : cSl w a = (A, n, c) := by unfold cSl; rw [h]
open Classical in
noncomputable def tabOf (W : World) (A : Option Addr) (n : Nat) : (Nat → Int) × (Nat → Int) := if h : ∃ p : (Nat → Int) × (Nat → Int), TabIn W A n p.1 p.2 then h.choose else (fun _ => 0, fun _ => 0)
theorem tabOf_in {W : World} {A : Option Addr} {n : Nat} {X Y : Nat → Int} (h : TabIn W A n X Y) : TabIn W A n (tabOf W A n).1 (tabOf W A n).2 := by
  unfold tabOf
  rw [dif_pos ⟨(X, Y), h⟩]
  exact (⟨(X, Y), h⟩ : ∃ p : (Nat → Int) × (Nat → Int), TabIn W A n p.1 p.2).choose_spec
open Classical in
theorem addr_at {W : World} {a : Addr} {v : Value} (hc : W.cell? a = some v) : ∃ b off, a = ⟨b, off, none⟩ ∧ b < W.heap.size ∧ ∀ i, (⟨b, off, none⟩ : Addr).add i = ⟨b, off + i, none⟩ := by
  have hlt := World.block_lt_of_cell? W _ hc
  obtain ⟨b, off, sp⟩ := a
  have hsp : sp = none := by
    cases sp with
    | none => rfl
    | some q => simp [World.cell?] at hc; split at hc <;> simp at hc
  subst hsp
  refine ⟨b, off, rfl, hlt, fun i => ?_⟩
  unfold Addr.add
  by_cases hi : i = 0
  · simp [hi]
  · simp [hi]
theorem cS : Tryz.prog.cellsOf 9 = 1 := by kernel_rfl
theorem cI : Tryz.prog.cellsOf 3 = 1 := by kernel_rfl
theorem cT : Tryz.prog.cellsOf 38 = 1 := by kernel_rfl

section
variable {H : Type} {enc : TypeId × Value → H} {W : World}
set_option maxRecDepth 100000 in
theorem open_tab_cells {fuel : Nat} {v : Value} {x : DataW H × List MemPlace} (hf : DataW.trod enc Tryz.prog W 0 (fun _ => true) true fuel 38 [v] = some x) :
    ∃ (A : Option Addr) (n c : Nat) (X Y : Nat → Int), v = .slice A n c ∧ TabIn W A n X Y := by
  rcases open_slice Tryz.underlying38 hf with ⟨hcs, _⟩ | ⟨a, len, cap, m, n, D, Pl, hcs, hb, hl, hm, hmm, hx, hi⟩
  · obtain rfl : v = .slice none 0 0 := by simpa using hcs
    exact ⟨none, 0, 0, fun _ => 0, fun _ => 0, rfl, by omega, .inl rfl⟩
  · obtain rfl : v = .slice (some a) len cap := by simpa using hcs
    unfold maxLen at hm
    simp only [if_true] at hmm
    have hC : Tryz.prog.cellsOf 44 = 2 := by kernel_rfl
    refine ⟨some a, len, cap, fun i => cInt W (a.add (i * 2)), fun i => cInt W (a.add (i * 2 + 1)), rfl, by omega, ?_⟩
    have cells : ∀ i, i < len → W.cell? (a.add (i * 2)) = some (.int .i64 (cInt W (a.add (i * 2)))) ∧ W.cell? (a.add (i * 2 + 1)) = some (.int .i64 (cInt W (a.add (i * 2 + 1)))) := by
      intro i him
      obtain ⟨cs', hc, ht'⟩ := hi i (by omega)
      rw [hC] at hc
      obtain ⟨_, hcl, hat⟩ := World.cells?_some hc
      obtain ⟨ys, m', _, _, hl', hyl, hf'⟩ := DataW.trod_struct Tryz.underlying44 ht'
      have hyl2 : ys.length = 2 := hyl
      have h0 := hat 0 (by omega)
      have h1 := hat 1 (by omega)
      match cs', hcl with
      | [u0, u1], _ =>
        match ys, hyl2 with
        | [y0, y1], _ =>
          have f0 : DataW.trod enc Tryz.prog W 0 (fun _ => true) true m' 3 [u0] = some y0 := by simpa [cI] using hf' 0 _ rfl
          have f1 : DataW.trod enc Tryz.prog W 0 (fun _ => true) true m' 3 [u1] = some y1 := by simpa [cI] using hf' 1 _ rfl
          obtain ⟨z0, e0, _, _⟩ := DataW.trod_int Tryz.underlying3 f0
          obtain ⟨z1, e1, _, _⟩ := DataW.trod_int Tryz.underlying3 f1
          simp only [List.cons.injEq, and_true] at e0 e1
          subst e0 e1
          rw [Go.Deep.add_add] at h0 h1
          have h0 : W.cell? (a.add (i * 2)) = some (.int .i64 z0) := h0
          have h1 : W.cell? (a.add (i * 2 + 1)) = some (.int .i64 z1) := h1
          rw [cInt_of h0, cInt_of h1]
          exact ⟨h0, h1⟩
    rcases Nat.eq_zero_or_pos len with h0 | h0
    · exact .inl h0
    · right
      have hc := (cells 0 h0).1
      rw [Nat.zero_mul] at hc
      have ha0 : a.add 0 = a := by unfold Addr.add; simp
      rw [ha0] at hc
      obtain ⟨b, off, rfl, hlt, e⟩ := addr_at hc
      refine ⟨b, off, rfl, hlt, fun k hk => ?_⟩
      obtain ⟨c1, c2⟩ := cells k hk
      refine ⟨?_, ?_⟩
      · rw [← e]; exact c1
      · rw [Nat.add_assoc, ← e]; exact c2
set_option maxRecDepth 100000 in
theorem open_section_cells {fuel : Nat} {vs : List Value} {y : DataW H × List MemPlace} (h : DataW.trod enc Tryz.prog W 0 (fun _ => true) true fuel 40 vs = some y) :
    ∃ (Nm : ByteArray) (Ht : Int) (Pr : Int) (AA : Option Addr) (AN AC : Nat) (AX AY : Nat → Int) (BA : Option Addr) (BN BC : Nat) (BX BY : Nat → Int), vs = [.string Nm, .int .i64 Ht, .int .i64 Pr, .slice AA AN AC, .slice BA BN BC] ∧ Nm.size ≤ maxLen ∧ TabIn W AA AN AX AY ∧ TabIn W BA BN BX BY := by
  obtain ⟨ys, m, _, _, hl, hyl, hf⟩ := DataW.trod_struct Tryz.underlying40 h
  have hl9 : vs.length = 5 := hl.trans (by kernel_rfl)
  have hyl8 : ys.length = 5 := hyl
  match vs, hl9 with
  | [v0, v1, v2, v3, v4], _ =>
  match ys, hyl8 with
  | [y0, y1, y2, y3, y4], _ =>
    have f0 : DataW.trod enc Tryz.prog W 0 (fun _ => true) true m 9 [v0] = some y0 := by simpa [cS, cI, cT] using hf 0 _ rfl
    obtain ⟨Nm, e0, _, hNm⟩ := DataW.trod_string Tryz.underlying9 f0
    have f1 : DataW.trod enc Tryz.prog W 0 (fun _ => true) true m 3 [v1] = some y1 := by simpa [cS, cI, cT] using hf 1 _ rfl
    obtain ⟨Ht, e1, _, _⟩ := DataW.trod_int Tryz.underlying3 f1
    have f2 : DataW.trod enc Tryz.prog W 0 (fun _ => true) true m 3 [v2] = some y2 := by simpa [cS, cI, cT] using hf 2 _ rfl
    obtain ⟨Pr, e2, _, _⟩ := DataW.trod_int Tryz.underlying3 f2
    have f3 : DataW.trod enc Tryz.prog W 0 (fun _ => true) true m 38 [v3] = some y3 := by simpa [cS, cI, cT] using hf 3 _ rfl
    obtain ⟨AA, AN, AC, AX, AY, e3, h3⟩ := open_tab_cells f3
    have f4 : DataW.trod enc Tryz.prog W 0 (fun _ => true) true m 38 [v4] = some y4 := by simpa [cS, cI, cT] using hf 4 _ rfl
    obtain ⟨BA, BN, BC, BX, BY, e4, h4⟩ := open_tab_cells f4
    simp only [List.cons.injEq, and_true] at e0 e1 e2
    subst e0; subst e1; subst e2; subst e3; subst e4
    exact ⟨Nm, Ht, Pr, AA, AN, AC, AX, AY, BA, BN, BC, BX, BY, rfl, hNm, h3, h4⟩
set_option maxRecDepth 100000 in
theorem open_section_slice {fuel : Nat} {v : Value} {x : DataW H × List MemPlace} (hf : DataW.trod enc Tryz.prog W 0 (fun _ => true) true fuel 22 [v] = some x) :
    ∃ (A : Option Addr) (n c : Nat) (D : Scs), v = .slice A n c ∧ ScIn W A n D ∧ ∀ k, k < n → (D.Nm k).size ≤ maxLen := by
  rcases open_slice Tryz.underlying22 hf with ⟨hcs, _⟩ | ⟨a, len, cap, m, n, D, Pl, hcs, hb, hl, hm, hmm, hx, hi⟩
  · obtain rfl : v = .slice none 0 0 := by simpa using hcs
    exact ⟨none, 0, 0, ⟨fun _ => ByteArray.empty, fun _ => 0, fun _ => 0, fun _ => none, fun _ => 0, fun _ => 0, fun _ _ => 0, fun _ _ => 0, fun _ => none, fun _ => 0, fun _ => 0, fun _ _ => 0, fun _ _ => 0⟩, rfl, ⟨by omega, .inl rfl⟩, fun k hk => absurd hk (Nat.not_lt_zero _)⟩
  · obtain rfl : v = .slice (some a) len cap := by simpa using hcs
    unfold maxLen at hm
    simp only [if_true] at hmm
    have hC : Tryz.prog.cellsOf 40 = 5 := by kernel_rfl
    have cells : ∀ i, i < len → (((∀ j v, ([.string (cStr W (a.add (i * 5 + 0))), .int .i64 (cInt W (a.add (i * 5 + 1))), .int .i64 (cInt W (a.add (i * 5 + 2))), .slice (cSl W (a.add (i * 5 + 3))).1 (cSl W (a.add (i * 5 + 3))).2.1 (cSl W (a.add (i * 5 + 3))).2.2, .slice (cSl W (a.add (i * 5 + 4))).1 (cSl W (a.add (i * 5 + 4))).2.1 (cSl W (a.add (i * 5 + 4))).2.2] : List Value)[j]? = some v → W.cell? (a.add (i * 5 + j)) = some v) ∧ TabIn W (cSl W (a.add (i * 5 + 3))).1 (cSl W (a.add (i * 5 + 3))).2.1 (tabOf W (cSl W (a.add (i * 5 + 3))).1 (cSl W (a.add (i * 5 + 3))).2.1).1 (tabOf W (cSl W (a.add (i * 5 + 3))).1 (cSl W (a.add (i * 5 + 3))).2.1).2 ∧ TabIn W (cSl W (a.add (i * 5 + 4))).1 (cSl W (a.add (i * 5 + 4))).2.1 (tabOf W (cSl W (a.add (i * 5 + 4))).1 (cSl W (a.add (i * 5 + 4))).2.1).1 (tabOf W (cSl W (a.add (i * 5 + 4))).1 (cSl W (a.add (i * 5 + 4))).2.1).2) ∧ (cStr W (a.add (i * 5 + 0))).size ≤ maxLen) := by
      intro i him
      obtain ⟨cs', hc, ht'⟩ := hi i (by omega)
      rw [hC] at hc
      obtain ⟨_, hcl, hat0⟩ := World.cells?_some hc
      obtain ⟨Nm, Ht, Pr, AA, AN, AC, AX, AY, BA, BN, BC, BX, BY, rfl, hNm, hAA, hBA⟩ := open_section_cells ht'
      have hat : ∀ j v, ([.string Nm, .int .i64 Ht, .int .i64 Pr, .slice AA AN AC, .slice BA BN BC] : List Value)[j]? = some v → W.cell? (a.add (i * 5 + j)) = some v := fun j v hj => by
        have hjl : j < 5 := by
          have := (List.getElem?_eq_some_iff.1 hj).1
          simpa using this
        rw [← Go.Deep.add_add, hat0 j hjl]
        exact hj
      rw [cStr_of (hat 0 _ rfl), cInt_of (hat 1 _ rfl), cInt_of (hat 2 _ rfl), cSl_of (hat 3 _ rfl), cSl_of (hat 4 _ rfl)]
      exact ⟨⟨hat, tabOf_in hAA, tabOf_in hBA⟩, hNm⟩
    refine ⟨some a, len, cap, ⟨fun i => cStr W (a.add (i * 5 + 0)), fun i => cInt W (a.add (i * 5 + 1)), fun i => cInt W (a.add (i * 5 + 2)), fun i => (cSl W (a.add (i * 5 + 3))).1, fun i => (cSl W (a.add (i * 5 + 3))).2.1, fun i => (cSl W (a.add (i * 5 + 3))).2.2, fun i => (tabOf W (cSl W (a.add (i * 5 + 3))).1 (cSl W (a.add (i * 5 + 3))).2.1).1, fun i => (tabOf W (cSl W (a.add (i * 5 + 3))).1 (cSl W (a.add (i * 5 + 3))).2.1).2, fun i => (cSl W (a.add (i * 5 + 4))).1, fun i => (cSl W (a.add (i * 5 + 4))).2.1, fun i => (cSl W (a.add (i * 5 + 4))).2.2, fun i => (tabOf W (cSl W (a.add (i * 5 + 4))).1 (cSl W (a.add (i * 5 + 4))).2.1).1, fun i => (tabOf W (cSl W (a.add (i * 5 + 4))).1 (cSl W (a.add (i * 5 + 4))).2.1).2⟩, rfl, ⟨by omega, ?_⟩, fun k hk => (cells k hk).2⟩
    rcases Nat.eq_zero_or_pos len with h0 | h0
    · exact .inl h0
    · right
      have hc := (cells 0 h0).1.1 0 _ rfl
      rw [Nat.zero_mul] at hc
      have ha0 : a.add (0 + 0) = a := by unfold Addr.add; simp
      rw [ha0] at hc
      obtain ⟨b, off, rfl, hlt, e⟩ := addr_at hc
      refine ⟨b, off, rfl, hlt, fun k hk => ?_⟩
      have hck := (cells k hk).1
      refine ⟨fun j v hj => ?_, hck.2⟩
      have := hck.1 j v hj
      rw [e, ← Nat.add_assoc] at this
      exact this
set_option maxRecDepth 100000 in
/-- A slice of sections. -/
theorem open_sections {b0 : Nat} {v : Value} {d : DataW H} {p : List MemPlace} (hv : Value.okWide Tryz.prog W .any b0 22 v) (h : DataW.Trod enc Tryz.prog W 0 (fun _ => true) true 22 v d p) :
    ∃ (A : Option Addr) (n c : Nat) (C : Scs), v = .slice A n c ∧ ScIn W A n C ∧ ∀ k, k < n → (C.Nm k).size ≤ maxLen := by
  obtain ⟨a, len, cap, rfl⟩ := okWide_slice Tryz.underlying22 hv
  obtain ⟨fuel, hf⟩ := h
  exact open_section_slice (v := .slice a len cap) (by simpa [Value.cells] using hf)
end
end Go.Proofs.YthbdeaglncoanaaGreatDoor

namespace Go.Proofs.YthbdeaglncoanaaGreatDoor
open Go Go.RowKit
set_option linter.unusedVariables false

variable {H : Type} {enc : TypeId × Value → H}
theorem handed_shaped {a : Assume} {C : Checked} {os : Os} {f : FuncId} {fn : Func} {s : ChangeSpec} {conds : List PathCond} {apart fresh handsOn again : Bool} {X : World → Array Value → Prop}
    (hX : ∀ (w w' : World) (args : Array Value), w.heap = w'.heap → X w args → X w' args)
    (own : ownKnob C.prog.godebug = none) (started : os.Started) (noInit : C.prog.inits.idxOf? f = none) (hfn : C.prog.funcs[f]? = some fn)
    (witness : ∃ (w : World) (tape : Tape) (i : Input), w.os = os ∧ (w.forCall tape i).Shaped C.prog ∧ i.vars = [] ∧ Input.okWide C.prog (w.forCall tape i) .any w.heap.size f i ∧
      ((s.pre enc C.prog fn conds apart (w.forCall tape i).memory i.args ∧ X (w.forCall tape i).memory i.args) ∧ sizedMet enc C.prog fn (OpenSpec.ofChange s) apart (w.forCall tape i).memory i.args) ∧ a.holds C.prog (lone (Frame.enter C.prog f i.args .normal) [] (w.forCall tape i)))
    (contract : ∀ (W : World) (base : Nat) (args : Array Value) (ds gs : List (DataW H)) (before : List MemPlace),
      W.ShapedOpen C.prog →
      (∀ (j : Nat) t v, fn.params[j]? = some t → args[j]? = some v → Value.okWide C.prog W .any base t v) →
      DataW.Whole enc C.prog fn.params.toList s.vars apart W args.toList ds gs before →
      conds.all (PathCond.test C.prog ⟨fn.params.toList, ds, s.plain.varTypes C.prog, gs⟩) = true →
      (DataW.weightsEach C.prog (fn.params.toList ++ s.plain.varTypes C.prog) (ds ++ gs)).all (· ≤ reachBytes) = true → X W args →
      a.holds C.prog (lone (Frame.enter C.prog f args .normal) [] W) →
      Calls C.prog f args W fun e W' => ∃ v, e = .returned v ∧ s.post enc C.prog fn apart fresh handsOn again W args v W') :
    ReturnsInHanded a C os f .any (fun w args => (s.pre enc C.prog fn conds apart w args ∧ X w args) ∧ sizedMet enc C.prog fn (OpenSpec.ofChange s) apart w args) (s.post enc C.prog fn apart fresh handsOn again) := by
  refine returnsInHanded_of_calls own started noInit witness ?_
  intro w tape i _ hsh _ hok hpre hholds
  obtain ⟨_, _, _, fn', hfn', _, _, _, _, hval⟩ := hok
  have e : fn' = fn := Option.some.inj (hfn'.symm.trans hfn)
  subst e
  obtain ⟨⟨⟨ds, gs, before, hw, hc⟩, hx⟩, hz⟩ := hpre
  have hw' := DataW.Whole.of_heap (w' := w.forCall tape i) (by rfl) hw
  refine (contract (w.forCall tape i) w.heap.size i.args ds gs before hsh hval hw' hc (hz.weights hw) (hX _ _ _ (by rfl) hx) hholds).mono fun e W' ⟨v, he, hp⟩ => ?_
  subst he
  exact ChangeSpec.post_blind hp
theorem int_of_shape {P : Program} {w : World} {g : Nat} {t : TypeId} {zero : Array Value} (h : w.ShapedOpen P) (hg : g < P.globals.size)
    (h0 : ((begin P (fun _ _ => 0) default).world.heap[g]?).bind Obj.row? = some (zero, t)) (hz : zero.size = 1)
    (hb : P.buildable t = true) (hc : P.cellTypes P.depth t = some [t]) (hu : P.underlying t = some (.int .i64)) : ∃ m : Int, w.cell? ⟨g, 0, none⟩ = some (.int .i64 m) := by
  obtain ⟨cs, hh, hs, hr⟩ := h.1 g zero t hg h0
  obtain ⟨ts, hts, _, hall⟩ := hr hb
  rw [hc] at hts
  cases hts
  have h1 : 0 < cs.size := by omega
  obtain ⟨u, hu', hok⟩ := hall 0 cs[0] (by simp [h1])
  have : u = t := by simpa using hu'.symm
  subst this
  have hcell : w.cell? ⟨g, 0, none⟩ = some cs[0] := by simp [World.cell?, hh, h1]
  rw [hcell]
  unfold Cell.ok at hok
  rw [hu] at hok
  cases hv : cs[0] <;> rw [hv] at hok <;> first | (simp at hok; done) | (simp at hok; obtain ⟨rfl, _⟩ := hok; exact ⟨_, rfl⟩) | (simp at hok; exact ⟨_, by rw [hok.1]⟩)
theorem maxlen_of_shape {w : World} (h : w.ShapedOpen Tryz.prog) : ∃ m : Int, w.cell? ⟨2, 0, none⟩ = some (.int .i64 m) :=
  int_of_shape (t := 3) (zero := #[.int .i64 0]) h (of_decide_eq_true (by kernel_rfl)) (by kernel_rfl) rfl (by kernel_rfl) (by kernel_rfl) Tryz.underlying3
end Go.Proofs.YthbdeaglncoanaaGreatDoor
/- What the listed variables give. -/
namespace Go.Proofs.YthbdeaglncoanaaGreatDoor.catalogueFormsRow
open Go.Proofs.YthbdeaglncoanaaGreatDoor Go.RowKit Go.WideShapes Go.ChangeShapes Go.ChangeAt Go.Deep Go.Joins
set_option linter.unusedVariables false
set_option linter.unusedSimpArgs false

theorem star_es : "*" ++ "errors.errorString" = "*errors.errorString" := by decide
theorem row_es (u : TypeId) (h : Tryz.prog.typeName? 3 u = some "*errors.errorString") : u = 180 :=
  typeName_ptr_named (nm := "errors.errorString") (by rw [star_es]; kernel_rfl) (by kernel_rfl) (by decide) u (by rw [star_es]; exact h)
set_option maxRecDepth 100000 in
/-- What the listed variables give. -/
theorem env_of_laid {W : World} (h : laidMetH Tryz.prog Rows.catalogueFormsRow.laid W) : Env W := by
  rw [MakeChecks.laidMetH_plain _ _ _ (by kernel_rfl)] at h
  have h3 : laidMet Tryz.prog (("internal/strconv.uint64pow10", Lib.tabData .u64 Lib.pow10Tab) :: [("unicode/utf8.acceptRanges", Rows.laid_unicode_utf8_acceptRanges), ("strconv.ErrRange", Rows.laid_strconv_ErrRange), ("strconv.ErrSyntax", Rows.laid_strconv_ErrSyntax), ("unicode/utf8.first", Rows.laid_unicode_utf8_first)]) W := (h.tail).tail
  have ht := Lib.tabIs_of_head (g := 3) (t := 140) (e := 73) (n := 20) (by kernel_rfl) (by kernel_rfl) Tryz.underlying140 Tryz.underlying73 (by kernel_rfl) (by kernel_rfl) h3
  obtain ⟨a1, s1, hv1, _⟩ := laid_sentinel h3.tail.tail (g := 5) (ti := 58) (tp := 180) (te := 182) (ts := 9) (by kernel_rfl) (by kernel_rfl) Tryz.underlying58 row_es Tryz.underlying180 Tryz.underlying182 rfl rfl Tryz.underlying9 (by kernel_rfl) (by kernel_rfl)
  obtain ⟨a2, s2, hv2, _⟩ := laid_sentinel h3.tail.tail.tail (g := 4) (ti := 58) (tp := 180) (te := 182) (ts := 9) (by kernel_rfl) (by kernel_rfl) Tryz.underlying58 row_es Tryz.underlying180 Tryz.underlying182 rfl rfl Tryz.underlying9 (by kernel_rfl) (by kernel_rfl)
  exact ⟨ht, ⟨_, _, hv2⟩, ⟨_, _, hv1⟩⟩
/-- A start that meets the condition. -/
theorem door_met (os : Os) (args : Array Value) : laidMetH Tryz.prog Rows.catalogueFormsRow.laid ((World.laidAll Tryz.prog os Rows.catalogueFormsRow.laid).forCall (fun _ _ => 0) ⟨#[], args, []⟩).memory := by
  rw [MakeChecks.laidMetH_plain _ _ _ (by kernel_rfl)]
  exact laidMet_laidAll _ (by kernel_rfl) (by kernel_rfl)
end Go.Proofs.YthbdeaglncoanaaGreatDoor.catalogueFormsRow

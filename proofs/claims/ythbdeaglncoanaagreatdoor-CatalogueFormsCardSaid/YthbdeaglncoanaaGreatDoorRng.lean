/- A range over a function whose closure keeps a cell of its own between two rounds: the statement's law, for a body that goes on or returns. Plain: no program in sight. -/
import Derived.RangeFuncNested
import Derived.RangeFuncBound
import Derived.RangeFuncCalls
import Derived.RangeFuncLeaves
namespace Go.Proofs.YthbdeaglncoanaaGreatDoor
open Go.RowKit
set_option linter.unusedVariables false
set_option linter.unusedSimpArgs false
variable {α : Type}
/-- What abides new blocks, and a turn of one certain block. -/
def Stays (bs : Nat) (J : List α → World → Prop) : Prop := ∀ pre A B row, J pre A → A.grownBy B row → (∀ r, row = some r → r = bs) → J pre B
/-- What an invariant of the caller's abides: new blocks, a turn of that block, and a turn of what is no cells and new. -/
def Holds (bs B : Nat) (I : List α → World → Prop) : Prop := ∀ pre W W' row, I pre W → W.grownBy W' row → (∀ r, row = some r → r = bs ∨ (B ≤ r ∧ ∃ o : Obj, W.heap[r]? = some o ∧ o.isCells = false)) → I pre W'
theorem Holds.put {bs B : Nat} {I : List α → World → Prop} (h : Holds bs B I) {pre : List α} {W : World} {l : Nat} {o : Obj} (o' : Obj) (hs : I pre W) (hB : B ≤ l) (hl : W.heap[l]? = some o) (ho : o.isCells = false) : I pre (W.putObj l o') :=
  h pre W _ (some l) hs (grownBy_putObj' W l o') (fun r e => by cases e; exact .inr ⟨hB, o, hl, ho⟩)
theorem Holds.new {bs B : Nat} {I : List α → World → Prop} (h : Holds bs B I) {pre : List α} {W : World} (o : Obj) (hs : I pre W) : I pre (W.alloc o) :=
  h pre W _ none hs (World.grownBy_alloc W o none) (fun r e => by cases e)
/-- The closure's word: over every caller, it hands out all of the list, one after the other, or stops where it is told to. -/
def Hands (F : Fence) (n : Nat) (P : Program) (g : Nat) (lb : Array Value) (encs : α → Array Value) (bs : Nat) (Kp : World → World → Prop) (xs : List α) (w : World) : Prop :=
  ∀ (l : Nat) (J : List α → World → Prop) (Jx : List α → World → Prop) (W : World), (∀ k, k < w.heap.size → W.heap[k]? = w.heap[k]?) → w.heap.size ≤ W.heap.size → Stays bs J →
    (∀ pre x post W1, xs = pre ++ x :: post → J pre W1 → YieldAt F (n - 1) P l (encs x) W1 fun e W' =>
      (e = .returned (.bool true) ∧ J (pre ++ [x]) W' ∧ Kp W1 W') ∨ (e = .returned (.bool false) ∧ Jx (pre ++ [x]) W')) →
    J [] W →
    CallsIn F n P g (#[.func (.yield l) #[] #[]] ++ lb) W fun e W' => (∃ v, e = .returned v) ∧ (J xs W' ∨ ∃ pre, Jx pre W')
/-- How a round's body is left: it goes on, or it returns. -/
def roundBy (B : Nat) (Kp : World → World → Prop) (I Ix : List α → World → Prop) (xs : List α) (W : World) : Exit → Act → World → Prop
  | .normal, _, W' => KeepsFrom B W W' ∧ Kp W W' ∧ I xs W'
  | .ret, _, W' => KeepsFrom B W W' ∧ Ix xs W'
  | _, _, _ => False
variable {F : Fence} {n : Nat} {P : Program}
theorem wpIn_range_own {g : Operand} {ps : Array Tmp} {assign body : Code} {Q : Exit → Act → World → Prop} {a : Act} {w : World}
    (hro : F.round = none) (h1 : 1 ≤ n) {gf : Nat} {lb : Array Value} (hg : a.eval g = .func (.func gf) #[] lb) (hFg : F.fn gf) (eg : ∀ args w, (callFunc gf args).run P w = .ok (.enter gf args) w)
    {encs : α → Array Value} {bs : Nat} (hbs : bs < w.heap.size) {Kp : World → World → Prop} {xs : List α} (hseq : Hands F (n - 1) P gf lb encs bs Kp xs w)
    (hKt : ∀ {A B C : World}, Kp A B → Kp B C → Kp A C) (hKb : ∀ (W : World) (l : Nat) (o' : Obj), w.heap.size ≤ l → Kp W (W.putObj l o')) (hps : ∀ x, (encs x).size = ps.size)
    (I Ix : List α → World → Prop) (hI : Holds bs w.heap.size I) (hIx : Holds bs w.heap.size Ix) (h0 : I [] w) (a₁ : α → Act)
    (hassign : ∀ (l : Nat) (x : α) (W : World) (K : Act → World → Prop), K (a₁ x) W →
      assign.wpIn (F.inRound l) (n - 1 - 1) P (Exit.then K (fun _ _ _ => False)) { tmps := (ps.zip (encs x)).foldl (fun t (p, v) => t.setIfInBounds p v) a.tmps, defers := [] } W)
    (hbody : ∀ (l : Nat) (pre : List α) (x : α) (post : List α) (W : World), xs = pre ++ x :: post → I pre W → body.wpIn (F.inRound l) (n - 1 - 1) P (roundBy w.heap.size Kp I Ix (pre ++ [x]) W) (a₁ x) W)
    (hdone : ∀ (D : Nat) (W : World), w.heap.size ≤ D → I xs W → W.heap[D]? = some (.deferred (some [])) → Q .normal { a with defers := { target := .collected D, args := #[] } :: a.defers } W)
    (hstop : ∀ (D : Nat) (pre : List α) (W : World), w.heap.size ≤ D → Ix pre W → W.heap[D]? = some (.deferred (some [])) → Code.ret.wpIn F n P Q { a with defers := { target := .collected D, args := #[] } :: a.defers } W) :
    (Code.rangeFunc g ps assign body).wpIn F n P Q a w := by
  refine wpIn_rangeFunc fun fn hfn => ?_
  rw [hro]
  let z := w.heap.size
  let rec_ : LoopState → Option Code → Loop := fun st pe => { state := st, pending := pe, fn, tmps := a.tmps, params := ps, assign, body, defers := z }
  obtain ⟨R, hR⟩ : ∃ R, R = rec_ := ⟨_, rfl⟩
  obtain ⟨V, hV⟩ : ∃ V, V = (w.alloc (.deferred (some []))).alloc (.loop (R .ready none)) := ⟨_, rfl⟩
  have hrun := run_enterLoop_outer (P := P) (w := w) fn a.tmps ps assign body
  have hVl : V.heap[z + 1]? = some (.loop (R .ready none)) := by
    have := World.alloc_heap_new (w.alloc (.deferred (some []))) (.loop (R .ready none))
    rw [World.size_alloc] at this
    rw [hV]; exact this
  have hVk : V.heap[z]? = some (.deferred (some [])) := by
    rw [hV]; exact (Below.heap_alloc _ _ _ (by simp [z])).trans (World.alloc_heap_new w _)
  have hVI : I [] V := by rw [hV]; exact hI.new _ (hI.new _ h0)
  have hVs : V.heap.size = z + 2 := by rw [hV]; simp [z]
  refine ⟨z + 1, [{ target := .collected z, args := #[] }], V, { target := .fn (.func gf) lb, args := #[.func (.yield (z + 1)) #[] #[]] }, V, gf, #[.func (.yield (z + 1)) #[] #[]] ++ lb, V, ?_, ?_, ?_, ?_, fun _ => h1, ?_⟩
  · rw [hV, hR]; exact hrun
  · simp only [resolve, hg]
    simp [go_sem]
  · intro f' hf'
    simp [Target.leads] at hf'
    exact hf' ▸ hFg
  · simp [invoke, go_sem, eg]
  -- what stands beside the caller's invariant: the record is ready, or done with the return pending; the block of deferred calls is empty
  have keep : ∀ {A B : World} {row : Option Nat} {k : Nat} {o : Obj}, A.grownBy B row → (∀ r, row = some r → r = bs) → z ≤ k → A.heap[k]? = some o → B.heap[k]? = some o := fun hg' hr hk ho =>
    (hg'.block _ (Array.getElem?_eq_some_iff.1 ho).1 (fun e => by have := hr _ e.symm; have : bs < z := hbs; omega)).trans ho
  refine (hseq (z + 1)
    (fun pre W => I pre W ∧ W.heap[z + 1]? = some (.loop (R .ready none)) ∧ W.heap[z]? = some (.deferred (some [])))
    (fun pre W => Ix pre W ∧ W.heap[z + 1]? = some (.loop (R .done (some .ret))) ∧ W.heap[z]? = some (.deferred (some [])))
    V (fun k hk => by rw [hV]; exact (Below.heap_alloc _ _ _ (by simp; omega)).trans (Below.heap_alloc _ _ _ hk)) (by omega)
    (fun pre A B row hs hg' hr => ⟨hI pre A B row hs.1 hg' (fun r e => .inl (hr r e)), keep hg' hr (by omega) hs.2.1, keep hg' hr (Nat.le_refl _) hs.2.2⟩)
    ?_ ⟨hVI, hVl, hVk⟩).mono ?_
  · -- a round
    rintro pre x post W hxs ⟨hi, hl, hk⟩
    have hlt : z + 1 < W.heap.size := (Array.getElem?_eq_some_iff.1 hl).1
    have hy := run_yield (P := P) (args := encs x) hl (by rw [hR]; exact hps x)
    rw [hR] at hy
    refine ⟨fn, _, assign, body, hy, roundIn_of_wpIn hfn (hassign _ x W _ ⟨_, run_beginRound hl (by rw [hR]), ?_⟩)⟩
    obtain ⟨U, hU⟩ : ∃ U, U = W.putObj (z + 1) (.loop { R .ready none with state := .busy }) := ⟨_, rfl⟩
    rw [← hU]
    have hUl : U.heap[z + 1]? = some (.loop { R .ready none with state := .busy }) := by rw [hU]; exact World.putObj_heap_same hlt
    have hUk : U.heap[z]? = some (.deferred (some [])) := by rw [hU]; exact (World.putObj_heap_other (by omega)).trans hk
    have hUI : I pre U := by rw [hU]; exact hI.put _ hi (by omega) hl rfl
    have hKU : Kp W U := by rw [hU]; exact hKb _ _ _ (by omega)
    refine wpIn_mono (hbody _ pre x post U hxs hUI) ?_
    have fin : ∀ (jump : Option Code) (X : World), KeepsFrom z U X → ∃ Y, (Instr.endRound (z + 1) jump).run P X = .ok (.bool jump.isNone) Y ∧ Y = X.putObj (z + 1) (.loop (R (if jump.isNone then .ready else .done) jump)) ∧ X.heap[z + 1]? = some (.loop { R .ready none with state := .busy }) ∧ Y.heap[z + 1]? = some (.loop (R (if jump.isNone then .ready else .done) jump)) ∧ Y.heap[z]? = some (.deferred (some [])) := fun jump X hX => by
      have hXl := hX.same _ _ (by omega) hUl rfl
      refine ⟨_, ?_, rfl, hXl, World.putObj_heap_same (Array.getElem?_eq_some_iff.1 hXl).1, (World.putObj_heap_other (by omega)).trans (hX.same _ _ (Nat.le_refl _) hUk rfl)⟩
      have := run_endRound (P := P) jump hXl
      rw [hR] at this ⊢
      exact this
    intro e a3 X hp
    cases e with
    | normal =>
      obtain ⟨hX, hKX, hIX⟩ := hp
      obtain ⟨Y, hr, hY, hXl, hYl, hYk⟩ := fin none X hX
      refine ⟨_, Y, hr, .inl ⟨rfl, ⟨?_, hYl, hYk⟩, ?_⟩⟩
      · rw [hY]; exact hI.put _ hIX (by omega) hXl rfl
      · rw [hY]; exact hKt (hKt hKU hKX) (hKb _ _ _ (by omega))
    | ret =>
      obtain ⟨hX, hIX⟩ := hp
      obtain ⟨Y, hr, hY, hXl, hYl, hYk⟩ := fin (some .ret) X hX
      refine ⟨_, Y, hr, .inr ⟨rfl, ?_, hYl, hYk⟩⟩
      rw [hY]; exact hIx.put _ hIX (by omega) hXl rfl
    | exit id => exact hp.elim
    | goto t => exact hp.elim
    | panic ch => exact hp.elim
    | outgrown => exact hp.elim
  · -- behind the closure
    rintro e X ⟨⟨v, rfl⟩, h⟩
    rcases h with ⟨hi, hl, hk⟩ | ⟨pre, hi, hl, hk⟩
    · have hend := run_endLoop (P := P) hl (by rw [hR]; simp [rec_])
      rw [hR] at hend
      exact ⟨none, _, hend, hdone z _ (Nat.le_refl _) (hI.put _ hi (by omega) hl rfl) ((World.putObj_heap_other (by omega)).trans hk)⟩
    · have hend := run_endLoop (P := P) hl (by rw [hR]; simp [rec_])
      rw [hR] at hend
      exact ⟨some .ret, _, hend, hstop z pre _ (Nat.le_refl _) (hIx.put _ hi (by omega) hl rfl) ((World.putObj_heap_other (by omega)).trans hk)⟩
end Go.Proofs.YthbdeaglncoanaaGreatDoor

/- The package's Check. -/
import Derived.Test.YtigocjhmgmhocaaGreatDoorFst
import Derived.Test.YtigocjhmgmhocaaGreatDoorFnd
import Derived.Test.YtigocjhmgmhocaaGreatDoorKey
import Derived.Lib.AppendIntMem
namespace Go.Proofs.YtigocjhmgmhocaaGreatDoor
open Go.RowKit Go.Maps
set_option linter.unusedVariables false
set_option linter.unusedSimpArgs false

/-- What the library's table holds. -/
def Env (w : World) : Prop := Lib.TabIs Tryz.prog w "internal/strconv.uint64pow10" .u64 Lib.pow10Tab
theorem var_below {P : Program} {w w' : World} {n : String} {cs : Array Value} (h : w.var? P n = some cs) (hb : Below w.heap.size w w') : w'.var? P n = some cs := by
  unfold World.var? at h ⊢
  cases hg : P.globalNamed n with
  | none => rw [hg] at h; cases h
  | some g =>
    rw [hg] at h
    have hlt : g < w.heap.size := by
      rcases Nat.lt_or_ge g w.heap.size with h1 | h1
      · exact h1
      · simp only [Option.bind_some, Array.getElem?_eq_none h1] at h; cases h
    simp only [Option.bind_some, hb.block g hlt]
    exact h
theorem Env.below {w w' : World} (h : Env w) (hb : Below w.heap.size w w') : Env w' := var_below h hb
theorem titoa (n : Int) (h0 : -9223372036854775808 ≤ n) (h1 : n ≤ 9223372036854775807) (w : World) (hE : Env w) :
    Calls Tryz.prog 22 #[.int .i64 n] w fun e w' => e = .returned (.string (fnm n)) ∧ Below w.heap.size w w' := by
  refine (Tryz.strconv_Itoa n h0 h1 w hE).mono ?_
  rintro e w' ⟨he, k, os, rfl⟩
  exact ⟨he, Lib.below_grow _ _ (Nat.le_refl _) _ _⟩
theorem own_map_ne {w wr : World} {u : Value} {M : Nat} {L : List (Int × Int)} {b i : Nat} {Y T : Nat → Int} (h : RMem w wr u M L) (ha : AMem wr b Y T i) : u.ownBlock ≠ some b := by
  obtain ⟨D, ⟨es, clock, hb, _⟩, _⟩ := ha
  rcases h.1.2 with ⟨rfl, _⟩ | ⟨g, cap, cur, rfl, _, hh, _⟩
  · simp [Value.ownBlock]
  · intro he
    have : g = b := by simpa [Value.ownBlock] using he
    subst this
    rw [hb] at hh
    cases hh
/-- What the first loop keeps: the accounts, and the events that are too great. -/
def CMem (w wr : World) (b : Nat) (Y T : Nat → Int) (i : Nat) (u : Value) (M : Nat) (gl : List (Int × Int)) : Prop := FMem w wr b Y T i ∧ RMem w wr u M gl
theorem CMem.call {w wr w' : World} {b i M : Nat} {Y T : Nat → Int} {u : Value} {gl : List (Int × Int)} (h : CMem w wr b Y T i u M gl) (hb : Below wr.heap.size wr w') : CMem w w' b Y T i u M gl := ⟨h.1.call hb, h.2.call hb⟩
theorem CMem.drew {w wr : World} {b i M : Nat} {Y T : Nat → Int} {u : Value} {gl : List (Int × Int)} (h : CMem w wr b Y T i u M gl) : CMem w wr.drew b Y T i u M gl := h.call (by (repeat' (first | assumption | exact Below.refl _ _ | exact Below.size (by assumption) | (refine Below.setCell ?_ ?_ _) | (refine Below.alloc ?_ ?_ _) | (refine Below.drew ?_) | (refine below_drewN ?_ _) | (refine Below.trans ?_ (Below.mono ‹Below _ _ _› ?_)) | omega | (simp; done) | (simp; omega) | (simp at *; omega))))
theorem CMem.put {w wr : World} {b i M : Nat} {Y T : Nat → Int} {u : Value} {gl : List (Int × Int)} (h : CMem w wr b Y T i u M gl) (hi : i ≤ 40) (hy : 0 ≤ Y i ∧ Y i ≤ 9999) (hT : ∀ j, j ≤ i → 0 ≤ T j) :
    ∃ w', (Instr.mapUpdate 75 (.map (some b)) (.int .i64 (Y i)) (.agg #[.int .i64 ((cnt Y (Y i) i : Int) + 1), .int .i64 (cutS (cutS (sm Y T (Y i) i) + cutS (T i)))])).run Tryz.prog wr = .ok () w' ∧ CMem w w' b Y T (i + 1) u M gl ∧ ∀ (g : Nat) (t : TypeId) (cs : Array Value), g ≠ b → Blk wr g t cs → Blk w' g t cs := by
  obtain ⟨w', hr, hA, hg⟩ := h.1.1.put hi hy hT
  have hB : Below w.heap.size w w' := h.1.2.2.grown hg (by have := h.1.2.2.size; omega) (fun k hk => by injection hk with hk; have := h.1.2.1; omega)
  exact ⟨w', hr, ⟨⟨hA, h.1.2.1, hB⟩, h.2.kept hg (.inr (own_map_ne h.2 h.1.1)) hB⟩, fun g t cs hne hb => hb.grown hg (by simpa using hne)⟩
theorem CMem.app {w wr w' : World} {b i M : Nat} {Y T : Nat → Int} {u v : Value} {gl : List (Int × Int)} {x y : Int} (h : CMem w wr b Y T i u M gl) {cs : Array Value} {t : TypeId} (hown : w'.ownsRow w.heap.size 48 2 v (M + 1) (fc gl ++ [.int .i64 x, .string (fnm y)])) (hg : (wr.alloc (.cells cs t)).grownBy w' u.ownBlock) : CMem w w' b Y T i v (M + 1) (gl ++ [(x, y)]) := by
  have h2 := h.2.app hown hg
  exact ⟨⟨(h.1.1.kept (World.grownBy_alloc wr _ none) (by simp)).kept hg (Ne.symm (own_map_ne h.2 h.1.1)), h.1.2.1, h2.2.2⟩, h2⟩
/-- The events that are too great, as findings. -/
def gFnd (T : Nat → Int) (vol : Int) (i : Nat) : List (Int × Int) := (greatL T vol i).map fun y => (2, y)
theorem gFnd_hit {T : Nat → Int} {vol : Int} {i : Nat} (h : vol < T i) : gFnd T vol (i + 1) = gFnd T vol i ++ [(2, (i : Int))] := by
  unfold gFnd; rw [greatL, if_pos h, List.map_append]; rfl
theorem gFnd_miss {T : Nat → Int} {vol : Int} {i : Nat} (h : ¬ vol < T i) : gFnd T vol (i + 1) = gFnd T vol i := by
  unfold gFnd; rw [greatL, if_neg h, List.append_nil]
theorem gFnd_len (T : Nat → Int) (vol : Int) : ∀ i, (gFnd T vol i).length ≤ i
  | 0 => by simp [gFnd, greatL]
  | i + 1 => by
    have := gFnd_len T vol i
    by_cases h : vol < T i
    · rw [gFnd_hit h, List.length_append]; simp; omega
    · rw [gFnd_miss h]; omega
/-- Findings of a kind over the first years. -/
def kFnd (kind : Int) (p : Int → Bool) (K : List Int) : Nat → List (Int × Int)
  | 0 => []
  | j + 1 => if p (kX39 K j) = true then kFnd kind p K j ++ [(kind, kX39 K j)] else kFnd kind p K j
theorem kFnd_take (kind : Int) (p : Int → Bool) (K : List Int) : ∀ j, j ≤ K.length → kFnd kind p K j = ((K.take j).filter p).map fun y => (kind, y)
  | 0, _ => by simp [kFnd]
  | j + 1, h => by
    have hj : j < K.length := h
    have e : K.take (j + 1) = K.take j ++ [kX39 K j] := by
      rw [List.take_succ_eq_append_getElem hj]
      congr 2
      simp [kX39, List.getD, hj]
    unfold kFnd
    rw [e, List.filter_append, List.map_append, kFnd_take kind p K j (by omega)]
    by_cases hp : p (kX39 K j) = true
    · rw [if_pos hp]; simp [hp]
    · rw [if_neg hp]; simp [hp]
theorem kFnd_all (kind : Int) (p : Int → Bool) (K : List Int) : kFnd kind p K K.length = (K.filter p).map fun y => (kind, y) := by
  rw [kFnd_take kind p K _ (Nat.le_refl _), List.take_length]
theorem kFnd_len (kind : Int) (p : Int → Bool) (K : List Int) : ∀ j, (kFnd kind p K j).length ≤ j
  | 0 => by simp [kFnd]
  | j + 1 => by
    have := kFnd_len kind p K j
    unfold kFnd
    split
    · rw [List.length_append]; simp; omega
    · omega
end Go.Proofs.YtigocjhmgmhocaaGreatDoor

/- A circular section, by the package. -/
import Derived.Test.YtpeelnjkppdkbaaCirc
import Derived.Test.YtpeelnjkppdkbaaName
import Derived.Test.YtpeelnjkppdkbaaTabTwo
import Derived.Maps.AppendAt
import Derived.Deep.AppendLies
import Derived.Laws.OwnMore
import Derived.OwnWalk
import Derived.Deep.CutRange
import Derived.Deep.Cut
namespace Go.Proofs.Ytpeelnjkppdkbaa
open Go.RowKit
set_option linter.unusedVariables false
set_option linter.unusedSimpArgs false

def Blk (w : World) (g : Nat) (t : TypeId) (cs : Array Value) : Prop := w.heap[g]? = some (.cells cs t (0, 0))
section
variable {w w' : World} {g : Nat} {t : TypeId} {cs : Array Value}
theorem Blk.lt (h : Blk w g t cs) : g < w.heap.size := by
  rcases Nat.lt_or_ge g w.heap.size with hlt | hge
  · exact hlt
  · unfold Blk at h; rw [Array.getElem?_eq_none hge] at h; cases h
theorem Blk.cell (h : Blk w g t cs) (i : Nat) : w.cell? ⟨g, i, none⟩ = cs[i]? := cell_of_row w g i cs t (0, 0) h
theorem Blk.frozen (h : Blk w g t cs) (i : Nat) : w.frozen? ⟨g, i, none⟩ = false := by
  unfold Blk at h
  simp [World.frozen?, h]
theorem Blk.new (w : World) (t : TypeId) (cs : Array Value) : Blk (w.alloc (.cells cs t)) w.heap.size t cs := heap_alloc_new w _
theorem Blk.drewN (h : Blk w g t cs) (n : Nat) : Blk (w.drewN n) g t cs := h
theorem Blk.alloc (h : Blk w g t cs) (o : Obj) : Blk (w.alloc o) g t cs := (Below.heap_alloc w o g h.lt).trans h
theorem Blk.set_ (h : Blk w g t cs) (i : Nat) (u : Value) : Blk (w.setCell ⟨g, i, none⟩ u) g t (cs.setIfInBounds i u) := by
  unfold Blk at h ⊢
  simp [World.setCell, Array.getElem?_modify, h]
theorem Blk.far (h : Blk w g t cs) {p : Addr} (hp : g ≠ p.block) (u : Value) : Blk (w.setCell p u) g t cs := (Below.heap_setCell w p u g hp).trans h
theorem Blk.below {B : Nat} (h : Blk w g t cs) (hb : Below B w w') (hg : g < B) : Blk w' g t cs := (hb.block g hg).trans h
theorem Blk.grown {row : Option Nat} (h : Blk w g t cs) (hb : w.grownBy w' row) (hg : some g ≠ row) : Blk w' g t cs := (hb.block g h.lt hg).trans h
theorem Blk.ne_ {g' : Nat} {t' : TypeId} {cs' : Array Value} (h : Blk w g t cs) (h' : Blk w g' t' cs') (hne : t ≠ t') : g ≠ g' := by
  rintro rfl
  unfold Blk at h h'
  rw [h] at h'
  injection h' with h'
  injection h' with _ ht
  exact hne ht
theorem own_blk_ne {base : Nat} {e : TypeId} {size n : Nat} {v : Value} {xs : List Value} (h : w.ownsRow base e size v n xs) (hg : Blk w g t cs) (hne : e ≠ t) : v.ownBlock ≠ some g := by
  rcases h.2 with ⟨rfl, _⟩ | ⟨g', cap, cur, rfl, _, hh, _⟩
  · simp [Value.ownBlock]
  · intro he
    have : g' = g := by simpa [Value.ownBlock] using he
    subst this
    exact Blk.ne_ (t := e) hh hg hne rfl
end
theorem only_of_below {a w : World} (h : Below a.heap.size a w) (row : Option Nat) : a.grownBy w row := ⟨h.os, h.tape, h.output, h.size, fun i hi _ => h.block i hi⟩
theorem own_below {w w' : World} {base : Nat} {e : TypeId} {size n : Nat} {v : Value} {xs : List Value} (h : w.ownsRow base e size v n xs) (hb : Below w.heap.size w w') : w'.ownsRow base e size v n xs := by
  refine h.kept (only_of_below hb none) ?_
  cases hv : v.ownBlock with
  | none => exact .inl rfl
  | some g => exact .inr (by simp)

def knots (X Y : Nat → Nat) (n : Nat) : List Value := (List.range n).flatMap fun j => [.int .i64 (X j), .int .i64 (Y j)]
theorem knots_succ (X Y : Nat → Nat) (n : Nat) : knots X Y (n + 1) = knots X Y n ++ [.int .i64 (X n), .int .i64 (Y n)] := by
  unfold knots; rw [List.range_succ, List.flatMap_append]; simp
theorem knots_len (X Y : Nat → Nat) (n : Nat) : (knots X Y n).length = n * 2 := by
  induction n with
  | zero => rfl
  | succ n ih => rw [knots_succ, List.length_append, ih]; simp; omega
theorem knots_at (X Y : Nat → Nat) (n k : Nat) (h : k < n) : (knots X Y n)[k * 2]? = some (.int .i64 (X k)) ∧ (knots X Y n)[k * 2 + 1]? = some (.int .i64 (Y k)) := by
  induction n with
  | zero => omega
  | succ n ih =>
    rw [knots_succ]
    rcases Nat.lt_or_ge k n with h1 | h1
    · rw [List.getElem?_append_left (by rw [knots_len]; omega), List.getElem?_append_left (by rw [knots_len]; omega)]
      exact ih h1
    · have : k = n := by omega
      subst this
      rw [List.getElem?_append_right (by rw [knots_len]; omega), List.getElem?_append_right (by rw [knots_len]; omega), knots_len]
      simp
theorem tab_of_own {w : World} {base g cap n : Nat} {t : TypeId} {X Y : Nat → Nat} (h : w.ownsRow base t 2 (.slice (some ⟨g, 0, none⟩) n cap) n (knots X Y n)) : TabAt w g 0 n (fun k => X k) (fun k => Y k) := by
  refine ⟨(h.lt g rfl).2, fun k hk => ?_⟩
  obtain ⟨h1, h2⟩ := knots_at X Y n k hk
  rw [Nat.zero_add]
  exact ⟨(h.cellAt (k * 2) (by omega)).trans h1, (h.cellAt (k * 2 + 1) (by omega)).trans h2⟩

theorem info39 : (Try.prog.info? 47).map (fun i => (i.zero, i.size, i.bytes)) = some (some (.agg #[.int .i64 0, .int .i64 0]), 2, 16) := by kernel_rfl

theorem w64_id {x : Int} (h1 : -9223372036854775808 ≤ x) (h2 : x ≤ 9223372036854775807) : wrap64 x = x := by unfold wrap64; omega
theorem w_id {x y : Int} (h1 : -9223372036854775808 ≤ x) (h2 : x ≤ 9223372036854775807) (h : x = y) : IntKind.i64.wrap x = y := by rw [IntKind.wrap_i64]; omega
theorem heap_alloc_set (w : World) (p : Addr) (u : Value) (o : Obj) : ((w.setCell p u).alloc o).heap[w.heap.size]? = some o := by
  have h := heap_alloc_new (w.setCell p u) o
  have e : (w.setCell p u).heap.size = w.heap.size := by simp [World.setCell]
  rwa [e] at h
theorem own_setCell {w : World} {base : Nat} {e : TypeId} {size n : Nat} {v : Value} {xs : List Value} {p : Addr} (h : w.ownsRow base e size v n xs) (hne : v.ownBlock ≠ some p.block) (u : Value) : (w.setCell p u).ownsRow base e size v n xs :=
  h.kept (row := some p.block) ⟨rfl, rfl, rfl, by simp [World.setCell], fun i hi hne' => Below.heap_setCell w p u i (fun e => hne' (by rw [e]))⟩ (.inr hne)
theorem add_w {a b c : Nat} (h : c = a + b) (hc : c ≤ 9223372036854775807) : IntKind.i64.wrap ((a : Int) + (b : Int)) = (c : Int) := w_id (by omega) (by omega) (by omega)
theorem mul_w {a b c : Nat} (h : c = a * b) (hc : c ≤ 9223372036854775807) : IntKind.i64.wrap ((a : Int) * (b : Int)) = (c : Int) := by
  rw [← Int.natCast_mul, ← h]; exact w_id (by omega) (by omega) rfl
theorem mul2_w {a c : Nat} (h : c = 2 * a) (hc : c ≤ 9223372036854775807) : IntKind.i64.wrap (2 * (a : Int)) = (c : Int) := w_id (by omega) (by omega) (by omega)
theorem mul4_w {a c : Nat} (h : c = 4 * a) (hc : c ≤ 9223372036854775807) : IntKind.i64.wrap (4 * (a : Int)) = (c : Int) := w_id (by omega) (by omega) (by omega)
theorem mul5_w {a c : Nat} (h : c = 5 * a) (hc : c ≤ 9223372036854775807) : IntKind.i64.wrap (5 * (a : Int)) = (c : Int) := w_id (by omega) (by omega) (by omega)
theorem sub_w {a b c : Nat} (h : c = a - b) (hb : b ≤ a) (ha : a ≤ 9223372036854775807) : IntKind.i64.wrap ((a : Int) - (b : Int)) = (c : Int) := w_id (by omega) (by omega) (by omega)
theorem sub_i {a b : Nat} (ha : a ≤ 32768) (hb : b ≤ 32768) : IntKind.i64.wrap ((a : Int) - (b : Int)) = (a : Int) - (b : Int) := w_id (by omega) (by omega) rfl
theorem nat_w {a : Nat} (ha : a ≤ 9223372036854775807) : wrap64 (a : Int) = (a : Int) := w64_id (by omega) (by omega)
theorem nat_i {a : Nat} (ha : a ≤ 9223372036854775807) : IntKind.i64.wrap (a : Int) = (a : Int) := w_id (by omega) (by omega) rfl
theorem add1_w {a c : Nat} (h : c = a + 1) (hc : c ≤ 9223372036854775807) : IntKind.i64.wrap ((a : Int) + 1) = (c : Int) := w_id (by omega) (by omega) (by omega)
theorem circ_measure {P n i j : Nat} (hj : j = i + 1) (hi : i = n + 1) (hn : n + 1 ≤ P) : P + 1 - (intOf (Value.int .i64 (j : Int))).toNat < P + 1 - (intOf (Value.int .i64 (i : Int))).toNat := by simp [intOf]; omega
theorem blk_at {w : World} {n : Nat} (h : w.heap.size = n) (t : TypeId) (cs : Array Value) : Blk (w.alloc (.cells cs t)) n t cs := by subst h; exact Blk.new w t cs
theorem knots_one {X Y : Nat → Nat} (hx : X 0 = 0) (hy : Y 0 = 0) : (#[Value.int .i64 0, Value.int .i64 0] : Array Value).toList = knots X Y (0 + 1) := by simp [knots, hx, hy]
theorem own_lit_at {w : World} {base g : Nat} {e : TypeId} {size : Nat} {cs : Array Value} {xs : List Value} (h : w.heap.size = g) (hb : base ≤ w.heap.size) (n : Nat) (hm : n ≤ maxLen) (hs : cs.size = n * size) (hx : cs.toList = xs) :
    (w.alloc (.cells cs e)).ownsRow base e size (.slice (some ⟨g, 0, none⟩) n n) n xs := by
  subst h hx; exact World.ownsRow_lit w cs n hb hm hs
theorem own_set5 {w : World} {base : Nat} {e : TypeId} {size n R : Nat} {v : Value} {xs : List Value} (h : w.ownsRow base e size v n xs) (hne : v.ownBlock ≠ some R) (u0 u1 u2 u3 u4 : Value) :
    (((((w.setCell ⟨R, 0, none⟩ u0).setCell ⟨R, 1, none⟩ u1).setCell ⟨R, 2, none⟩ u2).setCell ⟨R, 3, none⟩ u3).setCell ⟨R, 4, none⟩ u4).ownsRow base e size v n xs :=
  own_setCell (p := ⟨R, 4, none⟩) (own_setCell (p := ⟨R, 3, none⟩) (own_setCell (p := ⟨R, 2, none⟩) (own_setCell (p := ⟨R, 1, none⟩) (own_setCell (p := ⟨R, 0, none⟩) h hne u0) hne u1) hne u2) hne u3) hne u4
theorem below_set5 {a w : World} {B R : Nat} (h : Below B a w) (hB : B ≤ R) (u0 u1 u2 u3 u4 : Value) :
    Below B a (((((w.setCell ⟨R, 0, none⟩ u0).setCell ⟨R, 1, none⟩ u1).setCell ⟨R, 2, none⟩ u2).setCell ⟨R, 3, none⟩ u3).setCell ⟨R, 4, none⟩ u4) :=
  ((((h.setCell (p := ⟨R, 0, none⟩) hB u0).setCell (p := ⟨R, 1, none⟩) hB u1).setCell (p := ⟨R, 2, none⟩) hB u2).setCell (p := ⟨R, 3, none⟩) hB u3).setCell (p := ⟨R, 4, none⟩) hB u4
theorem half_abs {w0 w1 hh : Nat} (h : hh = ((w1 - w0) + (w0 - w1)) / 2) : max ((w1 : Int) - (w0 : Int)) ((w0 : Int) - (w1 : Int)) / 2 = (hh : Int) := by omega
theorem half_absT {w0 w1 hh : Nat} (h : hh = ((w1 - w0) + (w0 - w1)) / 2) : (max ((w1 : Int) - (w0 : Int)) ((w0 : Int) - (w1 : Int))).tdiv 2 = (hh : Int) := by
  rw [Int.tdiv_eq_ediv_of_nonneg (by omega), half_abs h]
theorem max_cast {a b c : Nat} (h : c = max a b) : max (a : Int) (b : Int) = (c : Int) := by omega
/-- What Circle answers where its arguments are right. -/
def CircPost (w : World) (nm : ByteArray) (S P pr : Nat) (e : Ending) (w' : World) : Prop := ∃ ga capA gc capC : Nat,
  e = .returned (.tuple #[.agg #[.string nm, .int .i64 (S : Int), .int .i64 (pr : Int), .slice (some ⟨ga, 0, none⟩) (P + 1) capA, .slice (some ⟨gc, 0, none⟩) (P + 1) capC], .int .i64 0]) ∧
  w.heap.size ≤ ga ∧ w.heap.size ≤ gc ∧ TabAt w' ga 0 (P + 1) (fun k => (Circ.cd S P k : Nat)) (fun k => (Circ.ca S P k : Nat)) ∧ TabAt w' gc 0 (P + 1) (fun k => (Circ.cd S P k : Nat)) (fun k => (Circ.ck S P k : Nat)) ∧ Below w.heap.size w w'
end Go.Proofs.Ytpeelnjkppdkbaa

/- A circular section, by the package. -/
import Derived.Test.YthbdeaglncoanaaGreatDoorCirc
import Derived.Test.YthbdeaglncoanaaGreatDoorName
import Derived.Test.YthbdeaglncoanaaGreatDoorTabTwo
import Derived.Maps.AppendAt
import Derived.Deep.AppendLies
import Derived.Laws.OwnMore
import Derived.OwnWalk
import Derived.Deep.CutRange
import Derived.Deep.Cut
namespace Go.Proofs.YthbdeaglncoanaaGreatDoor
open Go.RowKit
set_option linter.unusedVariables false
set_option linter.unusedSimpArgs false

section
variable {w w' : World} {g : Nat} {t : TypeId} {cs : Array Value}
end
def knots (X Y : Nat → Nat) (n : Nat) : List Value := (List.range n).flatMap fun j => [.int .i64 (X j), .int .i64 (Y j)]
theorem knots_succ (X Y : Nat → Nat) (n : Nat) : knots X Y (n + 1) = knots X Y n ++ [.int .i64 (X n), .int .i64 (Y n)] := by
  unfold knots; rw [List.range_succ, List.flatMap_append]; simp
theorem knots_len (X Y : Nat → Nat) (n : Nat) : (knots X Y n).length = n * 2 := by
  induction n with
  | zero => rfl
  | succ n ih => rw [knots_succ, List.length_append, ih]; simp; omega
theorem knots_at (X Y : Nat → Nat) (n k : Nat) (h : k < n) : (knots X Y n)[k * 2]? = some (.int .i64 (X k)) ∧ (knots X Y n)[k * 2 + 1]? = some (.int .i64 (Y k)) := by
  induction n with
  | zero => omega
  | succ n ih =>
    rw [knots_succ]
    rcases Nat.lt_or_ge k n with h1 | h1
    · rw [List.getElem?_append_left (by rw [knots_len]; omega), List.getElem?_append_left (by rw [knots_len]; omega)]
      exact ih h1
    · have : k = n := by omega
      subst this
      rw [List.getElem?_append_right (by rw [knots_len]; omega), List.getElem?_append_right (by rw [knots_len]; omega), knots_len]
      simp
theorem tab_of_own {w : World} {base g cap n : Nat} {t : TypeId} {X Y : Nat → Nat} (h : w.ownsRow base t 2 (.slice (some ⟨g, 0, none⟩) n cap) n (knots X Y n)) : TabAt w g 0 n (fun k => X k) (fun k => Y k) := by
  refine ⟨(h.lt g rfl).2, fun k hk => ?_⟩
  obtain ⟨h1, h2⟩ := knots_at X Y n k hk
  rw [Nat.zero_add]
  exact ⟨(h.cellAt (k * 2) (by omega)).trans h1, (h.cellAt (k * 2 + 1) (by omega)).trans h2⟩

theorem info39 : (Tryz.prog.info? 44).map (fun i => (i.zero, i.size, i.bytes)) = some (some (.agg #[.int .i64 0, .int .i64 0]), 2, 16) := by kernel_rfl

theorem w64_id {x : Int} (h1 : -9223372036854775808 ≤ x) (h2 : x ≤ 9223372036854775807) : wrap64 x = x := by unfold wrap64; omega
theorem w_id {x y : Int} (h1 : -9223372036854775808 ≤ x) (h2 : x ≤ 9223372036854775807) (h : x = y) : IntKind.i64.wrap x = y := by rw [IntKind.wrap_i64]; omega
/-- The struct that grows, and the result's place, behind n rounds. -/
def CMem (w wr : World) (nm : ByteArray) (S P pr n : Nat) : Prop := ∃ ga capA gc capC : Nat,
  Blk wr w.heap.size 40 #[.string ByteArray.empty, .int .i64 0, .int .i64 0, .slice none 0 0, .slice none 0 0] ∧
  Blk wr (w.heap.size + 1 + 1 + 1) 40 #[.string nm, .int .i64 (S : Int), .int .i64 (pr : Int), .slice (some ⟨ga, 0, none⟩) (n + 1) capA, .slice (some ⟨gc, 0, none⟩) (n + 1) capC] ∧
  wr.ownsRow (w.heap.size + 1) 44 2 (.slice (some ⟨ga, 0, none⟩) (n + 1) capA) (n + 1) (knots (Circ.cd S P) (Circ.ca S P) (n + 1)) ∧
  wr.ownsRow (w.heap.size + 1) 44 2 (.slice (some ⟨gc, 0, none⟩) (n + 1) capC) (n + 1) (knots (Circ.cd S P) (Circ.ck S P) (n + 1)) ∧ ga ≠ gc ∧ Below w.heap.size w wr

theorem heap_alloc_set (w : World) (p : Addr) (u : Value) (o : Obj) : ((w.setCell p u).alloc o).heap[w.heap.size]? = some o := by
  have h := heap_alloc_new (w.setCell p u) o
  have e : (w.setCell p u).heap.size = w.heap.size := by simp [World.setCell]
  rwa [e] at h
theorem own_setCell {w : World} {base : Nat} {e : TypeId} {size n : Nat} {v : Value} {xs : List Value} {p : Addr} (h : w.ownsRow base e size v n xs) (hne : v.ownBlock ≠ some p.block) (u : Value) : (w.setCell p u).ownsRow base e size v n xs :=
  h.kept (row := some p.block) ⟨rfl, rfl, rfl, by simp [World.setCell], fun i hi hne' => Below.heap_setCell w p u i (fun e => hne' (by rw [e]))⟩ (.inr hne)
/-- What the two appends of a round make of the struct. -/
theorem cmem_step {w w1 w2 w3 : World} {nm : ByteArray} {S P pr n ga capA gc capC g2 cap2 g3 cap3 G : Nat} {o1 o2 : Obj} (hG : G = w.heap.size + 1 + 1 + 1)
    (bR : Blk w1 w.heap.size 40 #[.string ByteArray.empty, .int .i64 0, .int .i64 0, .slice none 0 0, .slice none 0 0])
    (bG : Blk w1 G 40 #[.string nm, .int .i64 (S : Int), .int .i64 (pr : Int), .slice (some ⟨ga, 0, none⟩) (n + 1) capA, .slice (some ⟨gc, 0, none⟩) (n + 1) capC])
    (oA : w1.ownsRow (w.heap.size + 1) 44 2 (.slice (some ⟨ga, 0, none⟩) (n + 1) capA) (n + 1) (knots (Circ.cd S P) (Circ.ca S P) (n + 1)))
    (oC : w1.ownsRow (w.heap.size + 1) 44 2 (.slice (some ⟨gc, 0, none⟩) (n + 1) capC) (n + 1) (knots (Circ.cd S P) (Circ.ck S P) (n + 1))) (hne : ga ≠ gc) (hbw : Below w.heap.size w w1)
    (h2 : w2.ownsRow (w.heap.size + 1) 44 2 (.slice (some ⟨g2, 0, none⟩) (n + 1 + 1) cap2) (n + 1 + 1) (knots (Circ.cd S P) (Circ.ca S P) (n + 1 + 1))) (hg2 : (w1.alloc o1).grownBy w2 (some ga)) (ha2 : g2 = ga ∨ g2 = (w1.alloc o1).heap.size)
    (h3 : w3.ownsRow (w.heap.size + 1) 44 2 (.slice (some ⟨g3, 0, none⟩) (n + 1 + 1) cap3) (n + 1 + 1) (knots (Circ.cd S P) (Circ.ck S P) (n + 1 + 1))) (hg3 : ((w2.setCell ⟨G, 3, none⟩ (.slice (some ⟨g2, 0, none⟩) (n + 1 + 1) cap2)).alloc o2).grownBy w3 (some gc))
    (ha3 : g3 = gc ∨ g3 = ((w2.setCell ⟨G, 3, none⟩ (.slice (some ⟨g2, 0, none⟩) (n + 1 + 1) cap2)).alloc o2).heap.size) :
    CMem w (w3.setCell ⟨G, 4, none⟩ (.slice (some ⟨g3, 0, none⟩) (n + 1 + 1) cap3)) nm S P pr (n + 1) := by
  have nA := own_blk_ne oA bG (by decide)
  have nC := own_blk_ne oC bG (by decide)
  have rA := own_blk_ne oA bR (by decide)
  have rC := own_blk_ne oC bR (by decide)
  simp only [Value.ownBlock, ne_eq, Option.some.injEq] at nA nC rA rC
  have lA := oA.lt ga rfl
  have lC := oC.lt gc rfl
  have lG := bG.lt
  have z2 := hg2.size
  have z3 := hg3.size
  simp at z2 z3
  have bR2 : Blk w2 w.heap.size _ _ := (bR.alloc o1).grown hg2 (by simp; omega)
  have bG2 : Blk w2 G _ _ := (bG.alloc o1).grown hg2 (by simp; omega)
  have bR3 : Blk w3 w.heap.size _ _ := ((bR2.far (p := ⟨G, 3, none⟩) (by simp; omega) _).alloc o2).grown hg3 (by simp; omega)
  have bG3 : Blk w3 G _ _ := ((bG2.set_ 3 _).alloc o2).grown hg3 (by simp; omega)
  have n2 := own_blk_ne h2 bG2 (by decide)
  simp only [Value.ownBlock, ne_eq, Option.some.injEq] at n2
  have n3 := own_blk_ne h3 bG3 (by decide)
  simp only [Value.ownBlock, ne_eq, Option.some.injEq] at n3
  have l2 := h2.lt g2 rfl
  have e2 : g2 ≠ gc := by
    rcases ha2 with h | h
    · omega
    · simp at h; omega
  have A3 : w3.ownsRow (w.heap.size + 1) 44 2 (.slice (some ⟨g2, 0, none⟩) (n + 1 + 1) cap2) (n + 1 + 1) (knots (Circ.cd S P) (Circ.ca S P) (n + 1 + 1)) :=
    ((own_setCell (p := ⟨G, 3, none⟩) h2 (by simp [Value.ownBlock]; omega) _).alloc o2).kept hg3 (.inr (by simp [Value.ownBlock]; omega))
  have hb2 : Below w.heap.size w w2 := (hbw.alloc (by omega) o1).grown hg2 (by simp; omega) (fun k hk => by injection hk with hk; omega)
  have hb3 : Below w.heap.size w w3 := ((hb2.setCell (p := ⟨G, 3, none⟩) (by show w.heap.size ≤ G; omega) _).alloc (by simp; omega) o2).grown hg3 (by simp; omega) (fun k hk => by injection hk with hk; omega)
  have e3 : g2 ≠ g3 := by
    rcases ha3 with h | h
    · omega
    · simp at h; omega
  refine ⟨g2, cap2, g3, cap3, bR3.far (p := ⟨G, 4, none⟩) (by simp; omega) _, ?_, own_setCell A3 (by simp [Value.ownBlock]; omega) _, own_setCell h3 (by simp [Value.ownBlock]; omega) _, e3, hb3.setCell (by show w.heap.size ≤ G; omega) _⟩
  have := bG3.set_ 4 (.slice (some ⟨g3, 0, none⟩) (n + 1 + 1) cap3)
  rw [hG] at this ⊢
  exact this

theorem add_w {a b c : Nat} (h : c = a + b) (hc : c ≤ 9223372036854775807) : IntKind.i64.wrap ((a : Int) + (b : Int)) = (c : Int) := w_id (by omega) (by omega) (by omega)
theorem mul_w {a b c : Nat} (h : c = a * b) (hc : c ≤ 9223372036854775807) : IntKind.i64.wrap ((a : Int) * (b : Int)) = (c : Int) := by
  rw [← Int.natCast_mul, ← h]; exact w_id (by omega) (by omega) rfl
theorem mul2_w {a c : Nat} (h : c = 2 * a) (hc : c ≤ 9223372036854775807) : IntKind.i64.wrap (2 * (a : Int)) = (c : Int) := w_id (by omega) (by omega) (by omega)
theorem mul4_w {a c : Nat} (h : c = 4 * a) (hc : c ≤ 9223372036854775807) : IntKind.i64.wrap (4 * (a : Int)) = (c : Int) := w_id (by omega) (by omega) (by omega)
theorem mul5_w {a c : Nat} (h : c = 5 * a) (hc : c ≤ 9223372036854775807) : IntKind.i64.wrap (5 * (a : Int)) = (c : Int) := w_id (by omega) (by omega) (by omega)
theorem sub_w {a b c : Nat} (h : c = a - b) (hb : b ≤ a) (ha : a ≤ 9223372036854775807) : IntKind.i64.wrap ((a : Int) - (b : Int)) = (c : Int) := w_id (by omega) (by omega) (by omega)
theorem sub_i {a b : Nat} (ha : a ≤ 32768) (hb : b ≤ 32768) : IntKind.i64.wrap ((a : Int) - (b : Int)) = (a : Int) - (b : Int) := w_id (by omega) (by omega) rfl
theorem nat_w {a : Nat} (ha : a ≤ 9223372036854775807) : wrap64 (a : Int) = (a : Int) := w64_id (by omega) (by omega)
theorem nat_i {a : Nat} (ha : a ≤ 9223372036854775807) : IntKind.i64.wrap (a : Int) = (a : Int) := w_id (by omega) (by omega) rfl
theorem add1_w {a c : Nat} (h : c = a + 1) (hc : c ≤ 9223372036854775807) : IntKind.i64.wrap ((a : Int) + 1) = (c : Int) := w_id (by omega) (by omega) (by omega)
theorem circ_measure {P n i j : Nat} (hj : j = i + 1) (hi : i = n + 1) (hn : n + 1 ≤ P) : P + 1 - (intOf (Value.int .i64 (j : Int))).toNat < P + 1 - (intOf (Value.int .i64 (i : Int))).toNat := by simp [intOf]; omega
theorem blk_at {w : World} {n : Nat} (h : w.heap.size = n) (t : TypeId) (cs : Array Value) : Blk (w.alloc (.cells cs t)) n t cs := by subst h; exact Blk.new w t cs
theorem knots_one {X Y : Nat → Nat} (hx : X 0 = 0) (hy : Y 0 = 0) : (#[Value.int .i64 0, Value.int .i64 0] : Array Value).toList = knots X Y (0 + 1) := by simp [knots, hx, hy]
theorem own_set5 {w : World} {base : Nat} {e : TypeId} {size n R : Nat} {v : Value} {xs : List Value} (h : w.ownsRow base e size v n xs) (hne : v.ownBlock ≠ some R) (u0 u1 u2 u3 u4 : Value) :
    (((((w.setCell ⟨R, 0, none⟩ u0).setCell ⟨R, 1, none⟩ u1).setCell ⟨R, 2, none⟩ u2).setCell ⟨R, 3, none⟩ u3).setCell ⟨R, 4, none⟩ u4).ownsRow base e size v n xs :=
  own_setCell (p := ⟨R, 4, none⟩) (own_setCell (p := ⟨R, 3, none⟩) (own_setCell (p := ⟨R, 2, none⟩) (own_setCell (p := ⟨R, 1, none⟩) (own_setCell (p := ⟨R, 0, none⟩) h hne u0) hne u1) hne u2) hne u3) hne u4
theorem below_set5 {a w : World} {B R : Nat} (h : Below B a w) (hB : B ≤ R) (u0 u1 u2 u3 u4 : Value) :
    Below B a (((((w.setCell ⟨R, 0, none⟩ u0).setCell ⟨R, 1, none⟩ u1).setCell ⟨R, 2, none⟩ u2).setCell ⟨R, 3, none⟩ u3).setCell ⟨R, 4, none⟩ u4) :=
  ((((h.setCell (p := ⟨R, 0, none⟩) hB u0).setCell (p := ⟨R, 1, none⟩) hB u1).setCell (p := ⟨R, 2, none⟩) hB u2).setCell (p := ⟨R, 3, none⟩) hB u3).setCell (p := ⟨R, 4, none⟩) hB u4
theorem half_abs {w0 w1 hh : Nat} (h : hh = ((w1 - w0) + (w0 - w1)) / 2) : max ((w1 : Int) - (w0 : Int)) ((w0 : Int) - (w1 : Int)) / 2 = (hh : Int) := by omega
theorem half_absT {w0 w1 hh : Nat} (h : hh = ((w1 - w0) + (w0 - w1)) / 2) : (max ((w1 : Int) - (w0 : Int)) ((w0 : Int) - (w1 : Int))).tdiv 2 = (hh : Int) := by
  rw [Int.tdiv_eq_ediv_of_nonneg (by omega), half_abs h]
theorem max_cast {a b c : Nat} (h : c = max a b) : max (a : Int) (b : Int) = (c : Int) := by omega
/-- What Circle answers where its arguments are right. -/
def CircPost (w : World) (nm : ByteArray) (S P pr : Nat) (e : Ending) (w' : World) : Prop := ∃ ga capA gc capC : Nat,
  e = .returned (.tuple #[.agg #[.string nm, .int .i64 (S : Int), .int .i64 (pr : Int), .slice (some ⟨ga, 0, none⟩) (P + 1) capA, .slice (some ⟨gc, 0, none⟩) (P + 1) capC], .int .i64 0]) ∧
  w.heap.size ≤ ga ∧ w.heap.size ≤ gc ∧ TabAt w' ga 0 (P + 1) (fun k => (Circ.cd S P k : Nat)) (fun k => (Circ.ca S P k : Nat)) ∧ TabAt w' gc 0 (P + 1) (fun k => (Circ.cd S P k : Nat)) (fun k => (Circ.ck S P k : Nat)) ∧ Below w.heap.size w w'
set_option maxRecDepth 100000 in
set_option maxHeartbeats 2000000 in
theorem ccircle (nm : ByteArray) (S P pr : Nat) (w : World) (hn : nm.size ≤ maxLen) (hnm : nameB nm.data.toList = true) (h2 : 2 ≤ P) (h99 : P ≤ 99) (hPS : P ≤ S) (hS : S ≤ 32768) (hpr : pr ≤ 1073741824) :
    Calls Tryz.prog 16 #[.string nm, .int .i64 (S : Int), .int .i64 (pr : Int), .int .i64 (P : Int)] w (CircPost w nm S P pr) := by
  have S0 := Lib.hid fun w => disname nm hn w
  go_enter Tryz.func16, Tryz.ntmps16
  go_wp2_with (first | (go_at_call 36; (with_reducible refine (S0.out _).mono ?_); rintro e w' ⟨rfl, rfl⟩))
  obtain ⟨G, hG⟩ : ∃ G, G = w.heap.size + 1 + 1 + 1 := ⟨_, rfl⟩
  rw [← hG]
  have HG := Lib.hid hG
  clear hG
  have H2 := Lib.hid h2
  have H99 := Lib.hid h99
  have HPS := Lib.hid hPS
  have HS := Lib.hid hS
  have hP1 : (1 : Int) ≤ (P : Int) := by omega
  clear h2 h99 hPS hS hpr hnm hn S0
  go_loopw [11, 12, 13, 14, 15, 16] (fun v11 v12 v13 v14 v15 v16 wr => ∃ n i : Nat, Hid (n ≤ P) ∧ Hid (i = n + 1) ∧ v11 = .int .i64 (Circ.cd S P n : Nat) ∧ v12 = .int .i64 (Circ.cw S P n : Nat) ∧ v13 = .int .i64 (Circ.ca S P n : Nat) ∧ v14 = .int .i64 (Circ.cp S P n : Nat) ∧ v15 = .int .i64 (Circ.ck S P n : Nat) ∧ v16 = .int .i64 i ∧ Hid (CMem w wr nm S P pr n)) (fun _ _ _ _ _ v16 _ => P + 1 - (intOf v16).toNat)
  case atStart =>
    refine ⟨0, 1, Nat.zero_le _, rfl, by simp [Circ.cd], by simp [Circ.cw, Circ.cd, Num.isq], rfl, rfl, rfl, rfl, ?_⟩
    have s1 : (w.alloc (Obj.cells #[.string ByteArray.empty, .int .i64 0, .int .i64 0, .slice none 0 0, .slice none 0 0] 40)).heap.size = w.heap.size + 1 := by simp
    refine ⟨w.heap.size + 1, 1, w.heap.size + 1 + 1, 1, ?_, ?_, ?_, ?_, by omega, ?_⟩
    · exact (((Blk.new w _ _).alloc _).alloc _).alloc _
    · exact blk_at (by simp) _ _
    · exact ((own_lit_at (by simp) (by simp) 1 (by simp [maxLen]) rfl (knots_one (by simp [Circ.cd]) rfl)).alloc _).alloc _
    · exact (own_lit_at (by simp) (by simp) 1 (by simp [maxLen]) rfl (knots_one (by simp [Circ.cd]) rfl)).alloc _
    · (repeat' (first | assumption | exact Below.refl _ _ | exact Below.size (by assumption) | (refine Below.setCell ?_ ?_ _) | (refine Below.alloc ?_ ?_ _) | (refine Below.drew ?_) | (refine below_drewN ?_ _) | (refine Below.trans ?_ (Below.mono ‹Below _ _ _› ?_)) | omega | (simp; done) | (simp; omega) | (simp at *; omega)))
  case round =>
    obtain ⟨n, i, hn, hi, rfl, rfl, rfl, rfl, rfl, rfl, hm⟩ := hrel
    by_cases hlt : n < P
    · have HLT : Hid (n + 1 ≤ P) := hlt
      have h2 := H2.out
      have hPS := HPS.out
      have hS := HS.out
      have h99 := H99.out
      have hi' := hi.out
      have b1 := Circ.cd_le h2 hPS (by omega : n ≤ P)
      have b2 := Circ.cd_le h2 hPS (by omega : n + 1 ≤ P)
      have b3 := Circ.cw_le h2 hPS (by omega : n ≤ P)
      have b4 := Circ.cw_le h2 hPS (by omega : n + 1 ≤ P)
      have b5 := Circ.cd_step h2 hPS n
      have b6 := Circ.side_le h2 hPS (by omega : n + 1 ≤ P)
      have b7 := Circ.cp_le h2 hPS (by omega : n ≤ P)
      have b8 := Circ.cp_le h2 hPS (by omega : n + 1 ≤ P)
      have b9 := Circ.ca_bound h2 hPS hS (by omega : n + 1 ≤ P)
      have b10 := Circ.cubes h2 hPS hS (by omega : n + 1 ≤ P)
      have b11 := Circ.ck_new h2 hPS hS (by omega : n + 1 ≤ P)
      have b12 := Circ.ck_bound h2 hPS hS (by omega : n ≤ P)
      have b13 : n * (4 * S + 2) ≤ 99 * (4 * S + 2) := Nat.mul_le_mul_right _ (by omega)
      have b14 : (n + 1) * (4 * S + 2) ≤ 99 * (4 * S + 2) := Nat.mul_le_mul_right _ (by omega)
      have b15 := Circ.cs_le h2 hPS (by omega : n + 1 ≤ P)
      have b16 := Circ.ch_le h2 hPS (by omega : n + 1 ≤ P)
      have b17 : (Circ.cw S P n + Circ.cw S P (n + 1)) * Circ.cs S P n ≤ (2 * S) * S := Nat.mul_le_mul (by omega) b15
      have b18 : S * S ≤ 32768 * 32768 := Nat.mul_le_mul hS hS
      have b19 : S * i ≤ 32768 * 100 := Nat.mul_le_mul hS (by omega)
      have b20 : (2 * S) * S ≤ 65536 * 32768 := Nat.mul_le_mul (by omega) hS
      have d1d : Circ.cd S P (n + 1) = S * i / P := by rw [hi']; rfl
      have w1d : Circ.cw S P (n + 1) = Num.isq (4 * Circ.cd S P (n + 1) * (S - Circ.cd S P (n + 1))) := rfl
      have std : Circ.cs S P n = Circ.cd S P (n + 1) - Circ.cd S P n := rfl
      have hhd : Circ.ch S P n = ((Circ.cw S P (n + 1) - Circ.cw S P n) + (Circ.cw S P n - Circ.cw S P (n + 1))) / 2 := rfl
      have sdd : Circ.side S P n = csq (Circ.cs S P n * Circ.cs S P n + Circ.ch S P n * Circ.ch S P n) := rfl
      have a1d : Circ.ca S P (n + 1) = Circ.ca S P n + (Circ.cw S P n + Circ.cw S P (n + 1)) * Circ.cs S P n / 2 := rfl
      have p1d : Circ.cp S P (n + 1) = Circ.cp S P n + 2 * Circ.side S P n := rfl
      have k1d : Circ.ck S P (n + 1) = max (Circ.ck S P n) (Num.isq (Circ.ca S P (n + 1) * Circ.ca S P (n + 1) * (5 * Circ.ca S P (n + 1)) / (2 * Circ.cp S P (n + 1)))) := rfl
      have DK : Hid (knots (Circ.cd S P) (Circ.ca S P) (n + 1 + 1) = knots (Circ.cd S P) (Circ.ca S P) (n + 1) ++ [.int .i64 (Circ.cd S P (n + 1) : Nat), .int .i64 (Circ.ca S P (n + 1) : Nat)]) := knots_succ _ _ _
      have DC : Hid (knots (Circ.cd S P) (Circ.ck S P) (n + 1 + 1) = knots (Circ.cd S P) (Circ.ck S P) (n + 1) ++ [.int .i64 (Circ.cd S P (n + 1) : Nat), .int .i64 (Circ.ck S P (n + 1) : Nat)]) := knots_succ _ _ _
      have DW : Hid (Circ.cw S P (n + 1) = Circ.cw S P (n + 1)) := rfl
      obtain ⟨d0, e_d0⟩ : ∃ z, z = Circ.cd S P n := ⟨_, rfl⟩
      obtain ⟨d1, e_d1⟩ : ∃ z, z = Circ.cd S P (n + 1) := ⟨_, rfl⟩
      obtain ⟨w0, e_w0⟩ : ∃ z, z = Circ.cw S P n := ⟨_, rfl⟩
      obtain ⟨w1, e_w1⟩ : ∃ z, z = Circ.cw S P (n + 1) := ⟨_, rfl⟩
      obtain ⟨st, e_st⟩ : ∃ z, z = Circ.cs S P n := ⟨_, rfl⟩
      obtain ⟨hh, e_hh⟩ : ∃ z, z = Circ.ch S P n := ⟨_, rfl⟩
      obtain ⟨sd, e_sd⟩ : ∃ z, z = Circ.side S P n := ⟨_, rfl⟩
      obtain ⟨a0, e_a0⟩ : ∃ z, z = Circ.ca S P n := ⟨_, rfl⟩
      obtain ⟨a1, e_a1⟩ : ∃ z, z = Circ.ca S P (n + 1) := ⟨_, rfl⟩
      obtain ⟨p0, e_p0⟩ : ∃ z, z = Circ.cp S P n := ⟨_, rfl⟩
      obtain ⟨p1, e_p1⟩ : ∃ z, z = Circ.cp S P (n + 1) := ⟨_, rfl⟩
      obtain ⟨k0, e_k0⟩ : ∃ z, z = Circ.ck S P n := ⟨_, rfl⟩
      obtain ⟨k1, e_k1⟩ : ∃ z, z = Circ.ck S P (n + 1) := ⟨_, rfl⟩
      rw [← e_d0, ← e_w0, ← e_a0, ← e_p0, ← e_k0]
      simp only [← e_d0, ← e_d1, ← e_w0, ← e_w1, ← e_st, ← e_hh, ← e_sd, ← e_a0, ← e_a1, ← e_p0, ← e_p1, ← e_k0, ← e_k1] at b1 b2 b3 b4 b5 b6 b7 b8 b9 b10 b11 b12 b15 b16 b17 d1d w1d std hhd sdd a1d p1d k1d
      have ED0 := Lib.hid e_d0
      have ED1 := Lib.hid e_d1
      have EW1 := Lib.hid e_w1
      have EA1 := Lib.hid e_a1
      have EP1 := Lib.hid e_p1
      have EK1 := Lib.hid e_k1
      clear e_d0 e_d1 e_w0 e_w1 e_st e_hh e_sd e_a0 e_a1 e_p0 e_p1 e_k0 e_k1
      have B1 : d1 ≤ 32768 := Nat.le_trans b2 hS
      have B2 : w0 ≤ 32768 := Nat.le_trans b3 hS
      have B3 : w1 ≤ 32768 := Nat.le_trans b4 hS
      have B4 : st ≤ 32768 := Nat.le_trans b15 hS
      have B5 : hh ≤ 32768 := Nat.le_trans b16 hS
      have B6 : sd ≤ 65537 := by clear b1 b2 b3 b4 b5 b7 b8 b9 b10 b11 b12 b13 b14 b15 b16 b17 b18 b19 b20 d1d w1d std hhd sdd a1d p1d k1d; omega
      have B7 : p0 ≤ 99 * 131074 := by clear b1 b2 b3 b4 b5 b6 b8 b9 b10 b11 b12 b14 b15 b16 b17 b18 b19 b20 d1d w1d std hhd sdd a1d p1d k1d; omega
      have B8 : 1 ≤ p1 := by clear b1 b2 b3 b4 b6 b7 b9 b10 b11 b12 b13 b14 b15 b16 b17 b18 b19 b20 d1d w1d std hhd sdd a1d p1d k1d; omega
      have B9 : a1 ≤ 1073741824 := b9.1
      have B10 : a1 * a1 ≤ 1152921504606846976 := b10.1
      have B11 : a1 * a1 * (5 * a1) ≤ 1152921504606846976 * 5368709120 := b10.2.2
      have B13 : (w0 + w1) * st ≤ 2147483648 := Nat.le_trans b17 b20
      have B14 : S * i ≤ 3276800 := b19
      have B15 : d0 ≤ d1 := Nat.le_of_lt b5
      have B0 : d1 ≤ S := b2
      have HHD := Lib.hid hhd
      have K1D := Lib.hid k1d
      clear k1d b1 b2 b3 b4 b5 b6 b7 b8 b9 b10 b11 b12 b13 b14 b15 b16 b17 b18 b19 b20 hhd
      obtain ⟨t1, e_t1⟩ : ∃ z, z = S * i := ⟨_, rfl⟩
      rw [← e_t1] at d1d B14
      have x1 : IntKind.i64.wrap ((S : Int) * (i : Int)) = (t1 : Int) := mul_w e_t1 (Nat.le_trans B14 (by decide))
      have x2 : (t1 : Int) / (P : Int) = (d1 : Int) := by rw [d1d]; rfl
      have x2' : IntKind.i64.wrap (d1 : Int) = (d1 : Int) := nat_i (Nat.le_trans B1 (by decide))
      obtain ⟨f1, e_f1⟩ : ∃ z, z = 4 * d1 := ⟨_, rfl⟩
      obtain ⟨g1, e_g1⟩ : ∃ z, z = S - d1 := ⟨_, rfl⟩
      obtain ⟨s2, e_s2⟩ : ∃ z, z = 2 * sd := ⟨_, rfl⟩
      obtain ⟨a5, e_a5⟩ : ∃ z, z = 5 * a1 := ⟨_, rfl⟩
      obtain ⟨p2, e_p2⟩ : ∃ z, z = 2 * p1 := ⟨_, rfl⟩
      rw [← e_f1, ← e_g1] at w1d
      have C1 : f1 ≤ 131072 := by rw [e_f1]; exact Nat.mul_le_mul_left 4 B1
      have C2 : g1 ≤ 32768 := by rw [e_g1]; exact Nat.le_trans (Nat.sub_le _ _) hS
      have C3 : s2 ≤ 131074 := by rw [e_s2]; exact Nat.mul_le_mul_left 2 B6
      have C4 : a5 ≤ 5368709120 := by rw [e_a5]; exact Nat.mul_le_mul_left 5 B9
      have C5 : p1 ≤ 13107400 := by rw [p1d, ← e_s2]; exact Nat.add_le_add B7 C3
      have C6 : p2 ≤ 26214800 := by rw [e_p2]; exact Nat.mul_le_mul_left 2 C5
      have C7 : 0 < p2 := by rw [e_p2]; exact Nat.mul_pos (by decide) B8
      have x3 : IntKind.i64.wrap (4 * (d1 : Int)) = (f1 : Int) := mul4_w e_f1 (Nat.le_trans C1 (by decide))
      have x4 : IntKind.i64.wrap ((S : Int) - (d1 : Int)) = (g1 : Int) := sub_w e_g1 B0 (Nat.le_trans hS (by decide))
      have T1 := Lib.hid (cproduct f1 g1 (Nat.lt_of_le_of_lt C1 (by decide)) (Nat.lt_of_le_of_lt C2 (by decide)))
      have fg : f1 * g1 ≤ 131072 * 32768 := Nat.mul_le_mul C1 C2
      have T2 := Lib.hid (croot (f1 * g1) (Nat.lt_of_le_of_lt fg (by decide)))
      rw [← w1d] at T2
      have x5 : IntKind.i64.wrap ((d1 : Int) - (d0 : Int)) = (st : Int) := sub_w std B15 (Nat.le_trans B1 (by decide))
      have x6 := sub_i B3 B2
      have x7 := sub_i B2 B3
      have x8w : wrap64 (hh : Int) = (hh : Int) := nat_w (Nat.le_trans B5 (by decide))
      have T3 := Lib.hid (cproduct st st (Nat.lt_of_le_of_lt B4 (by decide)) (Nat.lt_of_le_of_lt B4 (by decide)))
      have T4 := Lib.hid (croot2 st hh (Nat.le_trans B4 (by decide)) (Nat.le_trans B5 (by decide)))
      rw [← sdd] at T4
      obtain ⟨u1, e_u1⟩ : ∃ z, z = w0 + w1 := ⟨_, rfl⟩
      rw [← e_u1] at a1d B13
      obtain ⟨u2, e_u2⟩ : ∃ z, z = u1 * st := ⟨_, rfl⟩
      rw [← e_u2] at a1d B13
      have C8 : u1 ≤ 65536 := by rw [e_u1]; exact Nat.add_le_add B2 B3
      have x9 : IntKind.i64.wrap ((w0 : Int) + (w1 : Int)) = (u1 : Int) := add_w e_u1 (Nat.le_trans C8 (by decide))
      have x10 : IntKind.i64.wrap ((u1 : Int) * (st : Int)) = (u2 : Int) := mul_w e_u2 (Nat.le_trans B13 (by decide))
      obtain ⟨u3, e_u3⟩ : ∃ z, z = u2 / 2 := ⟨_, rfl⟩
      rw [← e_u3] at a1d
      have x10b : (u2 : Int) / 2 = (u3 : Int) := by rw [e_u3]; rfl
      have x10c : wrap64 (u3 : Int) = (u3 : Int) := nat_w (by rw [e_u3]; exact Nat.le_trans (Nat.div_le_self _ _) (Nat.le_trans B13 (by decide)))
      have x11 : IntKind.i64.wrap ((a0 : Int) + (u3 : Int)) = (a1 : Int) := add_w a1d (Nat.le_trans B9 (by decide))
      have x12 : IntKind.i64.wrap (2 * (sd : Int)) = (s2 : Int) := mul2_w e_s2 (Nat.le_trans C3 (by decide))
      have x13 : IntKind.i64.wrap ((p0 : Int) + (s2 : Int)) = (p1 : Int) := add_w (by rw [e_s2]; exact p1d) (Nat.le_trans C5 (by decide))
      rw [← e_a5] at B11
      have T5 := Lib.hid (cproduct a1 a1 (Nat.lt_of_le_of_lt B9 (by decide)) (Nat.lt_of_le_of_lt B9 (by decide)))
      have x14 : IntKind.i64.wrap (5 * (a1 : Int)) = (a5 : Int) := mul5_w e_a5 (Nat.le_trans C4 (by decide))
      have T6 := Lib.hid (ctimes (a1 * a1) a5 (Nat.lt_of_le_of_lt C4 (by decide)) (Nat.lt_of_le_of_lt B11 (by decide)))
      have x15 : IntKind.i64.wrap (2 * (p1 : Int)) = (p2 : Int) := mul2_w e_p2 (Nat.le_trans C6 (by decide))
      have T7 := Lib.hid (cover (a1 * a1 * a5) p2 (Nat.lt_of_le_of_lt C6 (by decide)) C7 (Nat.lt_of_le_of_lt B11 (by decide)))
      obtain ⟨kk, e_kk⟩ : ∃ z, z = Num.isq (a1 * a1 * a5 / p2) := ⟨_, rfl⟩
      have T8 := Lib.hid (croot (a1 * a1 * a5 / p2) (Nat.lt_of_le_of_lt (Nat.div_le_self _ _) (Nat.lt_of_le_of_lt B11 (by decide))))
      rw [← e_kk] at T8
      have k1d := K1D.out
      rw [← e_a5, ← e_p2, ← e_kk] at k1d
      have K1F := Lib.hid k1d
      clear k1d
      obtain ⟨j, e_j⟩ : ∃ j, j = i + 1 := ⟨_, rfl⟩
      have x19 : IntKind.i64.wrap ((i : Int) + 1) = (j : Int) := add1_w e_j (by rw [e_j, hi']; exact Nat.le_trans (Nat.succ_le_succ hlt) (Nat.le_trans (Nat.succ_le_succ h99) (by decide)))
      have EJ := Lib.hid e_j
      clear e_j
      have x17 : decide ((i : Int) ≤ (P : Int)) = true := decide_eq_true (Int.ofNat_le.2 (by rw [hi']; exact hlt))
      have x18 : decide (i ≤ P) = true := decide_eq_true (by rw [hi']; exact hlt)
      have x16 : max (k0 : Int) (kk : Int) = (k1 : Int) := max_cast K1F.out
      have x8 := half_abs HHD.out
      have x8t := half_absT HHD.out
      clear d1d w1d std sdd a1d p1d h2 hPS hS h99 hi' hlt e_t1 e_u1 e_u2 e_u3 e_kk e_f1 e_g1 e_s2 e_a5 e_p2 B1 B2 B3 B4 B5 B6 B7 B8 B9 B10 B11 B13 B14 B15 fg B0 C1 C2 C3 C4 C5 C6 C7 C8
      go_upto_region 18 with (first | (go_at_call 37; (with_reducible refine (T1.out _).mono ?_); rintro e w1 ⟨rfl, hb1⟩; obtain ⟨hc1, hf1⟩ := bcell hb1; have hz1 := hb1.size; (try simp at hz1); (try simp only [heap_drew, World.heap_drewN] at hz1); (try simp only [heap_drew, World.heap_drewN] at hc1); (try simp only [heap_drew, World.heap_drewN] at hf1); (try have hs1 := Nat.lt_of_succ_le hz1); (try have hs2 := Nat.lt_of_succ_lt hs1); (try have y0 : w.heap.size < w1.heap.size := by omega); (try have y1 : w.heap.size + 1 < w1.heap.size := by omega); (try have y2 : w.heap.size + 2 < w1.heap.size := by omega)) | (go_at_call 38; (with_reducible refine (T2.out _).mono ?_); rintro e w1 ⟨rfl, hb1⟩; obtain ⟨hc1, hf1⟩ := bcell hb1; have hz1 := hb1.size; (try simp at hz1); (try simp only [heap_drew, World.heap_drewN] at hz1); (try simp only [heap_drew, World.heap_drewN] at hc1); (try simp only [heap_drew, World.heap_drewN] at hf1); (try have hs1 := Nat.lt_of_succ_le hz1); (try have hs2 := Nat.lt_of_succ_lt hs1); (try have y0 : w.heap.size < w1.heap.size := by omega); (try have y1 : w.heap.size + 1 < w1.heap.size := by omega); (try have y2 : w.heap.size + 2 < w1.heap.size := by omega)) | (go_at_call 37; (with_reducible refine (T3.out _).mono ?_); rintro e w1 ⟨rfl, hb1⟩; obtain ⟨hc1, hf1⟩ := bcell hb1; have hz1 := hb1.size; (try simp at hz1); (try simp only [heap_drew, World.heap_drewN] at hz1); (try simp only [heap_drew, World.heap_drewN] at hc1); (try simp only [heap_drew, World.heap_drewN] at hf1); (try have hs1 := Nat.lt_of_succ_le hz1); (try have hs2 := Nat.lt_of_succ_lt hs1); (try have y0 : w.heap.size < w1.heap.size := by omega); (try have y1 : w.heap.size + 1 < w1.heap.size := by omega); (try have y2 : w.heap.size + 2 < w1.heap.size := by omega)) | (go_at_call 39; (with_reducible refine (T4.out _).mono ?_); rintro e w1 ⟨rfl, hb1⟩; obtain ⟨hc1, hf1⟩ := bcell hb1; have hz1 := hb1.size; (try simp at hz1); (try simp only [heap_drew, World.heap_drewN] at hz1); (try simp only [heap_drew, World.heap_drewN] at hc1); (try simp only [heap_drew, World.heap_drewN] at hf1); (try have hs1 := Nat.lt_of_succ_le hz1); (try have hs2 := Nat.lt_of_succ_lt hs1); (try have y0 : w.heap.size < w1.heap.size := by omega); (try have y1 : w.heap.size + 1 < w1.heap.size := by omega); (try have y2 : w.heap.size + 2 < w1.heap.size := by omega)) | (go_at_call 37; (with_reducible refine (T5.out _).mono ?_); rintro e w1 ⟨rfl, hb1⟩; obtain ⟨hc1, hf1⟩ := bcell hb1; have hz1 := hb1.size; (try simp at hz1); (try simp only [heap_drew, World.heap_drewN] at hz1); (try simp only [heap_drew, World.heap_drewN] at hc1); (try simp only [heap_drew, World.heap_drewN] at hf1); (try have hs1 := Nat.lt_of_succ_le hz1); (try have hs2 := Nat.lt_of_succ_lt hs1); (try have y0 : w.heap.size < w1.heap.size := by omega); (try have y1 : w.heap.size + 1 < w1.heap.size := by omega); (try have y2 : w.heap.size + 2 < w1.heap.size := by omega)) | (go_at_call 40; (with_reducible refine (T6.out _).mono ?_); rintro e w1 ⟨rfl, hb1⟩; obtain ⟨hc1, hf1⟩ := bcell hb1; have hz1 := hb1.size; (try simp at hz1); (try simp only [heap_drew, World.heap_drewN] at hz1); (try simp only [heap_drew, World.heap_drewN] at hc1); (try simp only [heap_drew, World.heap_drewN] at hf1); (try have hs1 := Nat.lt_of_succ_le hz1); (try have hs2 := Nat.lt_of_succ_lt hs1); (try have y0 : w.heap.size < w1.heap.size := by omega); (try have y1 : w.heap.size + 1 < w1.heap.size := by omega); (try have y2 : w.heap.size + 2 < w1.heap.size := by omega)) | (go_at_call 41; (with_reducible refine (T7.out _).mono ?_); rintro e w1 ⟨rfl, hb1⟩; obtain ⟨hc1, hf1⟩ := bcell hb1; have hz1 := hb1.size; (try simp at hz1); (try simp only [heap_drew, World.heap_drewN] at hz1); (try simp only [heap_drew, World.heap_drewN] at hc1); (try simp only [heap_drew, World.heap_drewN] at hf1); (try have hs1 := Nat.lt_of_succ_le hz1); (try have hs2 := Nat.lt_of_succ_lt hs1); (try have y0 : w.heap.size < w1.heap.size := by omega); (try have y1 : w.heap.size + 1 < w1.heap.size := by omega); (try have y2 : w.heap.size + 2 < w1.heap.size := by omega)) | (go_at_call 38; (with_reducible refine (T8.out _).mono ?_); rintro e w1 ⟨rfl, hb1⟩; obtain ⟨hc1, hf1⟩ := bcell hb1; have hz1 := hb1.size; (try simp at hz1); (try simp only [heap_drew, World.heap_drewN] at hz1); (try simp only [heap_drew, World.heap_drewN] at hc1); (try simp only [heap_drew, World.heap_drewN] at hf1); (try have hs1 := Nat.lt_of_succ_le hz1); (try have hs2 := Nat.lt_of_succ_lt hs1); (try have y0 : w.heap.size < w1.heap.size := by omega); (try have y1 : w.heap.size + 1 < w1.heap.size := by omega); (try have y2 : w.heap.size + 2 < w1.heap.size := by omega)))
      have hbk : Below wr.heap.size wr w1 := by (repeat' (first | assumption | exact Below.refl _ _ | exact Below.size (by assumption) | (refine Below.setCell ?_ ?_ _) | (refine Below.alloc ?_ ?_ _) | (refine Below.drew ?_) | (refine below_drewN ?_ _) | (refine Below.trans ?_ (Below.mono ‹Below _ _ _› ?_)) | omega | (simp; done) | (simp; omega) | (simp at *; omega)))
      obtain ⟨i0, hi0, hz0, hz1', hz2⟩ := info_parts info39
      obtain ⟨ga, capA, gc, capC, bR0, bG0, oA0, oC0, hne, hbw0⟩ := hm.out
      have bR := bR0.below hbk bR0.lt
      have bG := bG0.below hbk bG0.lt
      have oA := own_below oA0 hbk
      have oC := own_below oC0 hbk
      have hbw := hbw0.trans (hbk.mono hbw0.size)
      clear hc1 hf1 bR0 bG0 oA0 oC0 hbw0 hbk
      rw [← HG.out] at bG
      have c3 := bG.cell 3
      have c4 := bG.cell 4
      have f3 := bG.frozen 3
      simp only [List.getElem?_toArray, List.getElem?_cons_succ, List.getElem?_cons_zero] at c3 c4
      have lG := bG.lt
      have hn99 : n ≤ 99 := by have := hn.out; have := H99.out; omega
      have HN99 := Lib.hid hn99
      have hGw : w.heap.size + 1 ≤ G := by have := HG.out; omega
      have HGW := Lib.hid hGw
      have hbase : w.heap.size + 1 ≤ w1.heap.size := by omega
      have HBASE := Lib.hid hbase
      have HNE := Lib.hid hne
      have HI0 := Lib.hid hi0
      have HZ0 := Lib.hid hz0
      have HZ1 := Lib.hid hz1'
      have HZ2 := Lib.hid hz2
      have HBR := Lib.hid bR
      have HBG := Lib.hid bG
      have HOA := Lib.hid oA
      have HOC := Lib.hid oC
      have HBW := Lib.hid hbw
      clear hn99 hGw hbase hne hi0 hz0 hz1' hz2 bR bG oA oC hbw
      go_upto_region 19 with (first
        | (at_builtin; refine wpList_append_own_at _ rfl (.tmp 124) (.tmp 128) 38 rfl (w.heap.size + 1) 44 i0 (.agg #[.int .i64 0, .int .i64 0]) 2 16 Tryz.underlying38 HI0.out HZ0.out HZ1.out HZ2.out rfl (by decide) (.slice (some ⟨ga, 0, none⟩) (n + 1) capA) (n + 1) (knots (Circ.cd S P) (Circ.ca S P) (n + 1)) rfl (HOA.out.alloc _) _ 1 1 [.int .i64 (d1 : Int), .int .i64 (a1 : Int)] rfl rfl (World.news_of_block (cs := #[.int .i64 (d1 : Int), .int .i64 (a1 : Int)]) (t := 44) (fr := (0, 0)) (heap_alloc_new _ _)) (by simp [Value.oneCell']) (by have := HN99.out; simp only [maxLen]; omega) (by have := HN99.out; omega) (by have := HBASE.out; simp; omega) ?_
           intro v2 w2 hown2 hgrow2 hnil2 hat2
           obtain ⟨g2, cap2, rfl, hb2, hl2⟩ := hown2.form (by omega)
           have bG2 := (HBG.out.alloc _).grown hgrow2 (own_blk_ne HOA.out HBG.out (by decide)).symm
           have d3 := bG2.cell 3
           have d4 := bG2.cell 4
           simp only [List.getElem?_toArray, List.getElem?_cons_succ, List.getElem?_cons_zero] at d3 d4
           have h3 := bG2.frozen 3
           have h4 := bG2.frozen 4
           have lG2 := bG2.lt
           have oC2 := (HOC.out.alloc _).kept hgrow2 (.inr (by simp only [Value.ownBlock, ne_eq, Option.some.injEq]; exact fun e => HNE.out e.symm))
           have nC2 := own_blk_ne oC2 bG2 (by decide)
           have HB2 := Lib.hid bG2
           have HOC2 := Lib.hid oC2
           have HNC2 := Lib.hid nC2
           have HOWN2 := Lib.hid hown2
           have HGROW2 := Lib.hid hgrow2
           have HAT2 := Lib.hid hat2
           clear bG2 oC2 nC2 hown2 hgrow2 hnil2 hat2))
      go_wp2_with (first
        | (at_builtin; refine wpList_append_own_at _ rfl (.tmp 132) (.tmp 136) 38 rfl (w.heap.size + 1) 44 i0 (.agg #[.int .i64 0, .int .i64 0]) 2 16 Tryz.underlying38 HI0.out HZ0.out HZ1.out HZ2.out rfl (by decide) (.slice (some ⟨gc, 0, none⟩) (n + 1) capC) (n + 1) (knots (Circ.cd S P) (Circ.ck S P) (n + 1)) rfl ((own_setCell (p := ⟨G, 3, none⟩) HOC2.out HNC2.out _).alloc _) _ 1 1 [.int .i64 (d1 : Int), .int .i64 (k1 : Int)] rfl rfl (World.news_of_block (cs := #[.int .i64 (d1 : Int), .int .i64 (k1 : Int)]) (t := 44) (fr := (0, 0)) (heap_alloc_set _ _ _ _)) (by simp [Value.oneCell']) (by have := HN99.out; simp only [maxLen]; omega) (by have := HN99.out; omega) (by have := HGW.out; simp; omega) ?_
           intro v3 w3 hown3 hgrow3 hnil3 hat3
           obtain ⟨g3, cap3, rfl, hb3, hl3⟩ := hown3.form (by omega)
           have bG3 := ((HB2.out.set_ 3 (.slice (some ⟨g2, 0, none⟩) (n + 1 + 1) cap2)).alloc _).grown hgrow3 (by simp only [Value.ownBlock, ne_eq, Option.some.injEq]; have := HNC2.out; simp only [Value.ownBlock, ne_eq, Option.some.injEq] at this; exact fun e => this e.symm)
           have d5 := bG3.cell 4
           simp only [List.setIfInBounds_toArray, List.set_cons_succ, List.set_cons_zero, List.getElem?_toArray, List.getElem?_cons_succ, List.getElem?_cons_zero] at d5
           have h5 := bG3.frozen 4
           have HOWN3 := Lib.hid hown3
           have HGROW3 := Lib.hid hgrow3
           have HAT3 := Lib.hid hat3
           clear bG3 hown3 hgrow3 hnil3 hat3))
      go_roundw
      case rel =>
        refine ⟨n + 1, j, HLT, ?_, ?_, ?_, ?_, ?_, ?_, ?_, ?_⟩
        · exact EJ.out.trans (congrArg Nat.succ hi.out)
        · rw [ED1.out]
        · rw [EW1.out]
        · rw [EA1.out]
        · rw [EP1.out]
        · rw [EK1.out]
        · rfl
        · refine cmem_step HG.out HBR.out HBG.out HOA.out HOC.out HNE.out HBW.out (by rw [DK.out, ← ED1.out, ← EA1.out]; exact HOWN2.out) HGROW2.out ?_ (by rw [DC.out, ← ED1.out, ← EK1.out]; exact HOWN3.out) HGROW3.out ?_
          · rcases HAT2.out with h | h
            · left; simpa [Value.ownBlock] using h
            · right; simpa [Value.ownBlock] using h
          · rcases HAT3.out with h | h
            · left; simpa [Value.ownBlock] using h
            · right; simpa [Value.ownBlock] using h
      case measure => exact circ_measure EJ.out hi.out HLT.out
    · obtain rfl : n = P := by have := hn.out; omega
      obtain ⟨ga, capA, gc, capC, bR, bG, oA, oC, hne, hbw⟩ := hm.out
      rw [← HG.out] at bG
      have hi' := hi.out
      have x17 : decide ((i : Int) ≤ (n : Int)) = false := decide_eq_false (by omega)
      have x18 : decide (i ≤ n) = false := decide_eq_false (by omega)
      have c0 := bG.cell 0
      have c1 := bG.cell 1
      have c2 := bG.cell 2
      have c3 := bG.cell 3
      have c4 := bG.cell 4
      have r0 := bR.cell 0
      have r1 := bR.cell 1
      have r2 := bR.cell 2
      have r3 := bR.cell 3
      have r4 := bR.cell 4
      simp only [List.getElem?_toArray, List.getElem?_cons_succ, List.getElem?_cons_zero] at c0 c1 c2 c3 c4 r0 r1 r2 r3 r4
      have f0 := bR.frozen 0
      have f1 := bR.frozen 1
      have f2 := bR.frozen 2
      have f3 := bR.frozen 3
      have f4 := bR.frozen 4
      have hlR := bR.lt
      have hGR : ¬ G = w.heap.size := by have := HG.out; omega
      have HGR := Lib.hid hGR
      have HBR := Lib.hid bR
      have HOA := Lib.hid oA
      have HOC := Lib.hid oC
      have HBW := Lib.hid hbw
      clear bR bG oA oC hbw hi' hlt hne hGR
      go_wp2_with fail
      have lA := HOA.out.lt ga rfl
      have lC := HOC.out.lt gc rfl
      refine bodyPost_ret (v := .tuple #[.agg #[.string nm, .int .i64 (S : Int), .int .i64 (pr : Int), .slice (some ⟨ga, 0, none⟩) (n + 1) capA, .slice (some ⟨gc, 0, none⟩) (n + 1) capC], .int .i64 0]) (by simp [results, Tryz.results16, go_sem, *]) rfl ⟨ga, capA, gc, capC, rfl, by omega, by omega, tab_of_own (base := w.heap.size + 1) (t := 44) (cap := capA) ?_, tab_of_own (base := w.heap.size + 1) (t := 44) (cap := capC) ?_, ?_⟩
      · exact own_set5 HOA.out (by simp only [Value.ownBlock, ne_eq, Option.some.injEq]; omega) _ _ _ _ _
      · exact own_set5 HOC.out (by simp only [Value.ownBlock, ne_eq, Option.some.injEq]; omega) _ _ _ _ _
      · exact below_set5 HBW.out (Nat.le_refl _) _ _ _ _ _
end Go.Proofs.YthbdeaglncoanaaGreatDoor

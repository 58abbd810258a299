/- What permit.Parse keeps between two rounds. -/
import Derived.Test.YtigocjhmgmhocaaGreatDoorPmK
import Derived.Test.YtigocjhmgmhocaaGreatDoorPmH
namespace Go.Proofs.YtigocjhmgmhocaaGreatDoor
open Go.RowKit
set_option linter.unusedVariables false
set_option linter.unusedSimpArgs false

theorem h63_le {n : Nat} (h : n ≤ 30000) : n + 1 ≤ maxLen := by simp only [maxLen]; omega
theorem hby_le {n : Nat} (h : n ≤ 30000) : (n + 1) * 56 ≤ 140737488355328 := by omega
theorem info26 : (Tryz.prog.info? 26).map (fun i => (i.zero, i.size, i.bytes)) = some (some (.agg #[.string ⟨#[]⟩, .string ⟨#[]⟩, .int .i64 0, .int .i64 0, .int .i64 0]), 5, 56) := by kernel_rfl
def zPm : Pmr := ⟨⟨#[]⟩, ⟨#[]⟩, 0, 0, 0⟩
def pcs (p : Pmr) : List Value := [.string p.nm, .string p.nd, .int .i64 p.ev, .int .i64 p.vol, .int .i64 p.tot]
def pc (L : List Pmr) : List Value := L.flatMap pcs
def pmsL (L : List Pmr) : Pms := ⟨fun k => (L.getD k zPm).nm, fun k => (L.getD k zPm).nd, fun k => (L.getD k zPm).ev, fun k => (L.getD k zPm).vol, fun k => (L.getD k zPm).tot⟩
theorem pmsL_at (L : List Pmr) (k : Nat) : (pmsL L).at k = L.getD k zPm := rfl
theorem pml_pmsL (L : List Pmr) : pml (pmsL L) L.length = L := by
  apply List.ext_getElem
  · rw [pml_len]
  · intro k h1 h2
    simp [pml, pmsL_at, List.getD, h2]
theorem pmsL_mem {L : List Pmr} {k : Nat} (h : k < L.length) : (pmsL L).at k ∈ L := by
  rw [pmsL_at]
  have : L.getD k zPm = L[k] := by simp [List.getD, h]
  rw [this]; exact List.getElem_mem h
theorem pc_append (L M : List Pmr) : pc (L ++ M) = pc L ++ pc M := by unfold pc; rw [List.flatMap_append]
theorem pc_one (p : Pmr) : pc [p] = pcs p := by simp [pc]
theorem pc_len (L : List Pmr) : (pc L).length = L.length * 5 := by
  induction L with
  | nil => rfl
  | cons p L ih => show (pc ([p] ++ L)).length = _; rw [pc_append, pc_one, List.length_append, ih]; simp [pcs]; omega
theorem pc_at (L : List Pmr) (k : Nat) (h : k < L.length) : (pc L)[k * 5]? = some (.string ((pmsL L).Nm k)) ∧ (pc L)[k * 5 + 1]? = some (.string ((pmsL L).Nd k)) ∧ (pc L)[k * 5 + 2]? = some (.int .i64 ((pmsL L).Ev k)) ∧ (pc L)[k * 5 + 3]? = some (.int .i64 ((pmsL L).Vol k)) ∧ (pc L)[k * 5 + 4]? = some (.int .i64 ((pmsL L).Tot k)) := by
  induction L generalizing k with
  | nil => simp at h
  | cons p L ih =>
    cases k with
    | zero => exact ⟨rfl, rfl, rfl, rfl, rfl⟩
    | succ k =>
      have := ih k (by simp at h; omega)
      have e1 : (k + 1) * 5 = k * 5 + 1 + 1 + 1 + 1 + 1 := by omega
      rw [e1]
      exact this
theorem pms_of_pc {w : World} {base g cap : Nat} {t : TypeId} {L : List Pmr} (h : w.ownsRow base t 5 (.slice (some ⟨g, 0, none⟩) L.length cap) L.length (pc L)) : PmAt w g 0 L.length (pmsL L) := by
  refine ⟨(h.lt g rfl).2, fun k hk => ?_⟩
  obtain ⟨h0, h1, h2, h3, h4⟩ := pc_at L k hk
  rw [Nat.zero_add]
  exact ⟨(h.cellAt (k * 5) (by omega)).trans h0, (h.cellAt (k * 5 + 1) (by omega)).trans h1, (h.cellAt (k * 5 + 2) (by omega)).trans h2, (h.cellAt (k * 5 + 3) (by omega)).trans h3, (h.cellAt (k * 5 + 4) (by omega)).trans h4⟩
/-- A line of a permit is at least ten bytes. -/
theorem itoa_pos_len (v : Int) : 1 ≤ (Lib.itoa v).length := by
  rcases Nat.eq_zero_or_pos (Lib.itoa v).length with h | h
  · have e := List.eq_nil_of_length_eq_zero h
    unfold Lib.itoa at e
    split at e
    · simp at e
    · have := congrArg List.length e
      rw [Lib.decDigits_length] at this
      have h2 := Lib.lt_pow_nDigits v.toNat
      have h3 : Lib.nDigits v.toNat = 0 := by simpa using this
      rw [h3] at h2
      unfold Lib.nDigits at h3
      split at h3 <;> omega
  · exact h
theorem pln_len {p : Pmr} (h : formP p) : 9 ≤ (pln p).length := by
  have h1 := (name_bytes h.nm).2.2.1
  have h2 := (name_bytes h.nd).2.2.1
  have h3 := itoa_pos_len p.ev
  have h4 := itoa_pos_len p.vol
  have h5 := itoa_pos_len p.tot
  unfold pln
  simp only [List.length_append, List.length_cons]
  omega
theorem ptx_len {L : List Pmr} (h : ∀ p, p ∈ L → formP p) : 10 * L.length ≤ (ptx L).length := by
  induction L with
  | nil => simp
  | cons p L ih =>
    have := ih (fun q hq => h q (by simp [hq]))
    have h2 := pln_len (h p (by simp))
    have e : ptx (p :: L) = pln p ++ 10 :: ptx L := by unfold ptx; simp
    rw [e]
    simp only [List.length_append, List.length_cons]
    omega
/-- The place of a bad line. -/
def posV (k : Nat) : Value := .agg #[.int .i64 k, .int .i64 (if k = 0 then 0 else 1)]
structure PqI (w : World) (s : ByteArray) (pre : List ByteArray) (W : World) : Prop where
  r0 : Blk W w.heap.size 22 #[.slice none 0 0]
  r1 : Blk W (w.heap.size + 1) 33 #[.int .i64 0, .int .i64 0]
  r2 : Blk W (w.heap.size + 1 + 1) 28 #[.int .i64 0]
  tb : ∃ v L, Blk W (w.heap.size + 1 + 1 + 1) 22 #[v] ∧ W.ownsRow (w.heap.size + 5) 26 5 v pre.length (pc L) ∧ L.length = pre.length ∧ (∀ p, p ∈ L → formP p) ∧ pre.map (·.data.toList) = pll L
  bl : Below w.heap.size w W
  sz : w.heap.size + 5 ≤ W.heap.size
structure PqX (w : World) (s : ByteArray) (W : World) : Prop where
  k : ∃ k : Nat, Blk W (w.heap.size + 1) 33 #[.int .i64 (k : Int), .int .i64 1] ∧ PmIs s.data.toList [] k 7
  r0 : Blk W w.heap.size 22 #[.slice none 0 0]
  r2 : Blk W (w.heap.size + 1 + 1) 28 #[.int .i64 7]
  bl : Below w.heap.size w W
theorem row_kept {W W' : World} {base size k bs B : Nat} {e : TypeId} {v : Value} {xs : List Value} {row : Option Nat} (h : W.ownsRow base e size v k xs) (hbs : bs < base) (hg : W.grownBy W' row) (hr : ∀ r, row = some r → r = bs ∨ (B ≤ r ∧ ∃ o : Obj, W.heap[r]? = some o ∧ o.isCells = false)) : W'.ownsRow base e size v k xs := by
  refine h.kept hg ?_
  rcases h.2 with ⟨rfl, _⟩ | ⟨g, cap, cur, rfl, hge, hgb, _⟩
  · exact .inl rfl
  · refine .inr fun e' => ?_
    rcases hr g (by simpa [Value.ownBlock] using e'.symm) with h1 | ⟨_, o, ho, hc⟩
    · omega
    · rw [hgb] at ho; cases ho; cases hc
theorem PqI.holds (w : World) (s : ByteArray) (B : Nat) (hB : w.heap.size + 5 ≤ B) : Holds (w.heap.size + 1 + 1 + 1 + 1) B (PqI w s) := fun pre W W' row h hg hr => by
  have hne : ∀ k, k < w.heap.size + 1 + 1 + 1 + 1 → some k ≠ row := fun k hk e => by rcases hr k e.symm with h1 | ⟨h1, _⟩ <;> omega
  obtain ⟨v, L, hb, ho, hl, ha⟩ := h.tb
  exact ⟨h.r0.grown hg (hne _ (by omega)), h.r1.grown hg (hne _ (by omega)), h.r2.grown hg (hne _ (by omega)), ⟨v, L, hb.grown hg (hne _ (by omega)), row_kept ho (by omega) hg hr, hl, ha⟩,
    h.bl.grown hg h.bl.size (fun k e => by rcases hr k e with h1 | ⟨h1, _⟩ <;> omega), Nat.le_trans h.sz hg.size⟩
theorem PqX.holds (w : World) (s : ByteArray) (B : Nat) (hB : w.heap.size + 5 ≤ B) : Holds (w.heap.size + 1 + 1 + 1 + 1) B (fun (_ : List ByteArray) W => PqX w s W) := fun pre W W' row h hg hr => by
  have hne : ∀ k, k < w.heap.size + 1 + 1 + 1 + 1 → some k ≠ row := fun k hk e => by rcases hr k e.symm with h1 | ⟨h1, _⟩ <;> omega
  obtain ⟨k, h1, h2⟩ := h.k
  exact ⟨⟨k, h1.grown hg (hne _ (by omega)), h2⟩, h.r0.grown hg (hne _ (by omega)), h.r2.grown hg (hne _ (by omega)), h.bl.grown hg h.bl.size (fun k e => by rcases hr k e with h1 | ⟨h1, _⟩ <;> omega)⟩
/-- Behind an append to the owned row: all below it, and whatever is no cells, lies as it lay. -/
theorem app_keep {w7 w8 : World} {base k : Nat} {v : Value} {xs : List Value} {tmp : Obj} (ho : w7.ownsRow base 26 5 v k xs) (hg : (w7.alloc tmp).grownBy w8 v.ownBlock) :
    w7.heap.size ≤ w8.heap.size ∧ (∀ j, j < base → j < w7.heap.size → w8.heap[j]? = w7.heap[j]?) ∧ (∀ (j : Nat) (o : Obj), w7.heap[j]? = some o → o.isCells = false → w8.heap[j]? = some o) ∧ (∀ B, B ≤ base → B ≤ w7.heap.size → Below B w7 w8) := by
  have hs : w7.heap.size ≤ w8.heap.size := by have := hg.size; simp at this; omega
  have key : ∀ g, v.ownBlock = some g → base ≤ g ∧ ∃ o : Obj, w7.heap[g]? = some o ∧ o.isCells = true := fun g e => by
    rcases ho.2 with ⟨rfl, _⟩ | ⟨g', cap, cur, rfl, hge, hgb, _⟩
    · simp [Value.ownBlock] at e
    · have : g' = g := by simpa [Value.ownBlock] using e
      subst this
      exact ⟨hge, _, hgb, rfl⟩
  have hold : ∀ j, j < w7.heap.size → (w7.alloc tmp).heap[j]? = w7.heap[j]? := fun j hj => Below.heap_alloc _ _ _ hj
  refine ⟨hs, fun j hj hj2 => ?_, fun j o hj ho' => ?_, fun B hB hB2 => ?_⟩
  · refine (hg.block j (by simp; omega) (fun e => ?_)).trans (hold j hj2)
    have := (key j e.symm).1; omega
  · have hlt := (Array.getElem?_eq_some_iff.1 hj).1
    refine ((hg.block j (by simp; omega) (fun e => ?_)).trans (hold j hlt)).trans hj
    obtain ⟨_, o2, h2, h3⟩ := key j e.symm
    rw [hj] at h2; cases h2; rw [ho'] at h3; cases h3
  · exact ((Below.refl B w7).alloc hB2 tmp).grown hg (by simp; omega) (fun g e => Nat.le_trans hB (key g e).1)
theorem own_blk_far {W : World} {base k g : Nat} {e : TypeId} {size : Nat} {v : Value} {xs : List Value} (h : W.ownsRow base e size v k xs) (hg : g < base) : v = .slice none 0 0 ∨ some g ≠ v.ownBlock := by
  rcases h.2 with ⟨rfl, _⟩ | ⟨g', cap, cur, rfl, hge, _⟩
  · exact .inl rfl
  · refine .inr fun e => ?_
    have : g = g' := by simpa [Value.ownBlock] using e
    omega
theorem heap_set {W : World} {p : Addr} {u : Value} {k : Nat} (h : k ≠ p.block) : (W.setCell p u).heap[k]? = W.heap[k]? := Below.heap_setCell W p u k h
theorem size_set (W : World) (p : Addr) (u : Value) : (W.setCell p u).heap.size = W.heap.size := by simp [World.setCell]
theorem own_shape {W : World} {base k : Nat} {e : TypeId} {v : Value} {xs : List Value} {size : Nat} (h : W.ownsRow base e size v k xs) : ∃ A cap, v = .slice A k cap := by
  rcases h.2 with ⟨hv, h0⟩ | ⟨g, cap, cur, rfl, _⟩
  · exact ⟨none, 0, by rw [hv, h0]⟩
  · exact ⟨_, cap, rfl⟩
/-- The world after the three results are stored. -/
def st3 (W : World) (z : Nat) (v0 v1 v2 v3 : Value) : World := (((W.setCell ⟨z, 0, none⟩ v0).setCell ⟨z + 1, 0, none⟩ v1).setCell ⟨z + 1, 1, none⟩ v2).setCell ⟨z + 1 + 1, 0, none⟩ v3
theorem st3_size (W : World) (z : Nat) (v0 v1 v2 v3 : Value) : (st3 W z v0 v1 v2 v3).heap.size = W.heap.size := by unfold st3; simp only [size_set]
theorem st3_heap (W : World) (z : Nat) (v0 v1 v2 v3 : Value) {k : Nat} (h : k < z ∨ z + 1 + 1 < k) : (st3 W z v0 v1 v2 v3).heap[k]? = W.heap[k]? := by
  unfold st3
  rw [heap_set (by show k ≠ z + 1 + 1; omega), heap_set (by show k ≠ z + 1; omega), heap_set (by show k ≠ z + 1; omega), heap_set (by show k ≠ z; omega)]
theorem st3_blk {W : World} {z : Nat} {T P E : TypeId} {x0 x1 x2 x3 : Value} (h0 : Blk W z T #[x0]) (h1 : Blk W (z + 1) P #[x1, x2]) (h2 : Blk W (z + 1 + 1) E #[x3]) (v0 v1 v2 v3 : Value) :
    Blk (st3 W z v0 v1 v2 v3) z T #[v0] ∧ Blk (st3 W z v0 v1 v2 v3) (z + 1) P #[v1, v2] ∧ Blk (st3 W z v0 v1 v2 v3) (z + 1 + 1) E #[v3] := by
  unfold st3
  refine ⟨(((h0.set_ 0 v0).far (by show z ≠ z + 1; omega) _).far (by show z ≠ z + 1; omega) _).far (by show z ≠ z + 1 + 1; omega) _, ((((h1.far (by show z + 1 ≠ z; omega) v0).set_ 0 v1).set_ 1 v2).far (by show z + 1 ≠ z + 1 + 1; omega) v3), (((h2.far (by show z + 1 + 1 ≠ z; omega) v0).far (by show z + 1 + 1 ≠ z + 1; omega) v1).far (by show z + 1 + 1 ≠ z + 1; omega) v2).set_ 0 v3⟩
theorem st3_below {w W : World} (h : Below w.heap.size w W) (v0 v1 v2 v3 : Value) : Below w.heap.size w (st3 W w.heap.size v0 v1 v2 v3) := by
  unfold st3
  exact (((h.setCell (p := ⟨w.heap.size, 0, none⟩) (Nat.le_refl _) _).setCell (p := ⟨w.heap.size + 1, 0, none⟩) (by show w.heap.size ≤ w.heap.size + 1; omega) _).setCell (p := ⟨w.heap.size + 1, 1, none⟩) (by show w.heap.size ≤ w.heap.size + 1; omega) _).setCell (p := ⟨w.heap.size + 1 + 1, 0, none⟩) (by show w.heap.size ≤ w.heap.size + 1 + 1; omega) _
theorem keeps_st3 {B z : Nat} {W A : World} (v0 v1 v2 v3 : Value) (h : Below W.heap.size W A) (hB : z + 2 < B) : KeepsFrom B W (st3 A z v0 v1 v2 v3) := by
  refine ⟨by rw [st3_size]; exact h.size, fun k o hk ho _ => ?_⟩
  rw [st3_heap _ _ _ _ _ _ (by omega)]
  exact (h.block k (Array.getElem?_eq_some_iff.1 ho).1).trans ho
theorem PqI.bad {w W A : World} {s x : ByteArray} {pre post : List ByteArray} {k : Nat} (hi : PqI w s pre W) (h : Below W.heap.size W A) (hxs : lines s = pre ++ x :: post) (hx : ∀ p, formP p → x.data.toList ≠ pln p ++ [10]) (hk : k = pre.length + 1) : PqX w s (st3 A w.heap.size (.slice none 0 0) (.int .i64 (k : Int)) (.int .i64 1) (.int .i64 7)) := by
  obtain ⟨a, b, c⟩ := st3_blk (hi.r0.call h) (hi.r1.call h) (hi.r2.call h) (.slice none 0 0) (.int .i64 (k : Int)) (.int .i64 1) (.int .i64 7)
  obtain ⟨v, L, _, _, hL, hf, hp⟩ := hi.tb
  refine ⟨⟨k, b, .form k L x.data.toList (post.map (·.data.toList)) hf ?_ hx (by rw [hL]; exact hk)⟩, a, c, st3_below (hi.bl.trans (h.mono hi.bl.size)) _ _ _ _⟩
  have e := congrArg (List.map fun b : ByteArray => b.data.toList) hxs
  unfold lines at e
  rw [List.map_map, List.map_append, List.map_cons, hp] at e
  rw [← e]
  conv => lhs; rw [← List.map_id (rl s.data.toList)]
  apply List.map_congr_left
  intro a _
  simp
theorem PqI.app {w W w7 w8 : World} {s x : ByteArray} {pre : List ByteArray} {v v' : Value} {L : List Pmr} {p : Pmr} {tmp : Obj} {B : Nat} (hi : PqI w s pre W) (hB : w.heap.size + 5 ≤ B) (h : Below W.heap.size W w7)
    (hL : L.length = pre.length) (hf : ∀ p, p ∈ L → formP p) (hp : pre.map (·.data.toList) = pll L) (hpf : formP p) (hx : x.data.toList = pln p ++ [10])
    (hv : Blk w7 (w.heap.size + 1 + 1 + 1) 22 #[v]) (ho : w7.ownsRow (w.heap.size + 5) 26 5 v pre.length (pc L)) (hown : w8.ownsRow (w.heap.size + 5) 26 5 v' (pre.length + 1) (pc L ++ pcs p)) (hg : (w7.alloc tmp).grownBy w8 v.ownBlock) :
    KeepsFrom B W (w8.setCell ⟨w.heap.size + 1 + 1 + 1, 0, none⟩ v') ∧ Kp1 (w.heap.size + 1 + 1 + 1 + 1) W (w8.setCell ⟨w.heap.size + 1 + 1 + 1, 0, none⟩ v') ∧ PqI w s (pre ++ [x]) (w8.setCell ⟨w.heap.size + 1 + 1 + 1, 0, none⟩ v') := by
  obtain ⟨k1, k2, k3, k4⟩ := app_keep ho hg
  have hs7 := h.size
  have hsz := hi.sz
  have b8 : Below w.heap.size w w8 := (hi.bl.trans (h.mono hi.bl.size)).trans (k4 _ (by omega) (by omega))
  have blk : ∀ {j : Nat} {t : TypeId} {cs : Array Value}, j < w.heap.size + 5 → Blk w7 j t cs → Blk w8 j t cs := fun hj hb => (k2 _ hj hb.lt).trans hb
  refine ⟨⟨by rw [size_set]; omega, fun k o hk ho' hc => ?_⟩, ⟨by rw [size_set]; omega, ?_⟩, ?_⟩
  · rw [heap_set (by show k ≠ w.heap.size + 1 + 1 + 1; omega)]
    exact k3 k o ((h.block k (Array.getElem?_eq_some_iff.1 ho').1).trans ho') hc
  · rw [heap_set (by show w.heap.size + 1 + 1 + 1 + 1 ≠ w.heap.size + 1 + 1 + 1; omega)]
    exact (k2 _ (by omega) (by omega)).trans (h.block _ (by omega))
  · refine ⟨(blk (by omega) (hi.r0.call h)).far (by show w.heap.size ≠ w.heap.size + 1 + 1 + 1; omega) _, (blk (by omega) (hi.r1.call h)).far (by show w.heap.size + 1 ≠ w.heap.size + 1 + 1 + 1; omega) _, (blk (by omega) (hi.r2.call h)).far (by show w.heap.size + 1 + 1 ≠ w.heap.size + 1 + 1 + 1; omega) _, ⟨v', L ++ [p], (blk (by omega) hv).set_ 0 v', ?_, by simp [hL], ?_, ?_⟩, b8.setCell (p := ⟨w.heap.size + 1 + 1 + 1, 0, none⟩) (by show w.heap.size ≤ w.heap.size + 1 + 1 + 1; omega) _, by rw [size_set]; omega⟩
    · rw [pc_append, pc_one, List.length_append]
      refine hown.kept (grownBy_setCell' w8 _ v') ?_
      rcases own_blk_far (g := w.heap.size + 1 + 1 + 1) hown (by omega) with h0 | h0
      · exact .inl (by rw [h0]; rfl)
      · exact .inr (Ne.symm h0)
    · intro q hq
      rcases List.mem_append.1 hq with h1 | h1
      · exact hf q h1
      · rw [List.mem_singleton.1 h1]; exact hpf
    · rw [List.map_append, hp]
      unfold pll
      rw [List.map_append]
      simp [hx]
theorem PmAt.moved {w w' : World} {b off n : Nat} {P : Pms} (h : PmAt w b off n P) (hs : b < w'.heap.size) (he : w'.heap[b]? = w.heap[b]?) : PmAt w' b off n P :=
  ⟨hs, fun k hk => by
    obtain ⟨h0, h1, h2, h3, h4⟩ := h.2 k hk
    exact ⟨(World.cell?_of_block he).trans h0, (World.cell?_of_block he).trans h1, (World.cell?_of_block he).trans h2, (World.cell?_of_block he).trans h3, (World.cell?_of_block he).trans h4⟩⟩
theorem lines_lists (s : ByteArray) : (lines s).map (·.data.toList) = rl s.data.toList := by
  unfold lines
  rw [List.map_map]
  conv => rhs; rw [← List.map_id (rl s.data.toList)]
  apply List.map_congr_left
  intro a _
  simp
/-- What Parse answers. -/
def PqPost (w : World) (s : ByteArray) (e : Ending) (w' : World) : Prop :=
  ∃ (L : List Pmr) (k : Nat) (er : Int) (A : Option Addr) (cap : Nat), PmIs s.data.toList L k er ∧ e = .returned (.tuple #[.slice A L.length cap, posV k, .int .i64 er]) ∧ PmIn w' A L.length (pmsL L) ∧ Below w.heap.size w w'
end Go.Proofs.YtigocjhmgmhocaaGreatDoor

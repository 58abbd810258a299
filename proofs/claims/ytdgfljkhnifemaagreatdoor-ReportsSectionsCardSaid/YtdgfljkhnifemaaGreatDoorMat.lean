/- Rows of bytes: a picture of h rows and wd columns, in memory. Plain. -/
import Derived.Test.YtdgfljkhnifemaaGreatDoorSct
import Derived.Test.YtdgfljkhnifemaaGreatDoorBase
import Derived.Lib.SlBytesRow
import Derived.Lib.SlBuf
namespace Go.Proofs.YtdgfljkhnifemaaGreatDoor
open Go.RowKit
set_option linter.unusedVariables false
set_option linter.unusedSimpArgs false

/-- The first wd cells of block b are bytes F 0, F 1, .. -/
def RowOf (w : World) (b wd : Nat) (F : Nat → Int) : Prop := ∀ i, i < wd → w.cell? ⟨b, i, none⟩ = some (.int .u8 (F i)) ∧ w.frozen? ⟨b, i, none⟩ = false
theorem frozen_block {w w' : World} {b i : Nat} (h : w'.heap[b]? = w.heap[b]?) : w'.frozen? ⟨b, i, none⟩ = w.frozen? ⟨b, i, none⟩ := by simp [World.frozen?, h]
theorem cell_block {w w' : World} {b i : Nat} (h : w'.heap[b]? = w.heap[b]?) : w'.cell? ⟨b, i, none⟩ = w.cell? ⟨b, i, none⟩ := by simp [World.cell?, h]
theorem RowOf.block {w w' : World} {b wd : Nat} {F : Nat → Int} (hr : RowOf w b wd F) (h : w'.heap[b]? = w.heap[b]?) : RowOf w' b wd F := fun i hi => ⟨(cell_block h).trans (hr i hi).1, (frozen_block h).trans (hr i hi).2⟩
theorem RowOf.below {w w' : World} {B b wd : Nat} {F : Nat → Int} (hr : RowOf w b wd F) (hb : Below B w w') (hB : b < B) : RowOf w' b wd F := hr.block (hb.block b hB)
theorem RowOf.congr {w : World} {b wd : Nat} {F F' : Nat → Int} (hr : RowOf w b wd F) (h : ∀ i, i < wd → F i = F' i) : RowOf w b wd F' := fun i hi => by rw [← h i hi]; exact hr i hi
theorem RowOf.set {w : World} {b wd : Nat} {F : Nat → Int} (hr : RowOf w b wd F) {i : Nat} (hi : i < wd) (v : Int) : RowOf (w.setCell ⟨b, i, none⟩ (.int .u8 v)) b wd (fun j => if j = i then v else F j) := by
  intro j hj
  refine ⟨?_, by rw [World.frozen?_setCell]; exact (hr j hj).2⟩
  show _ = some (Value.int .u8 (if j = i then v else F j))
  by_cases h : j = i
  · subst h
    rw [if_pos rfl]
    exact World.cell?_setCell_same w _ _ (hr j hj).1
  · rw [if_neg h]
    refine (World.cell?_setCell_other w _ _ _ ?_).trans (hr j hj).1
    intro e
    injection e with _ e2 _
    exact h e2.symm
theorem RowOf.bytes {w : World} {b wd : Nat} {F : Nat → Int} {f : Nat → UInt8} (hr : RowOf w b wd F) (hF : ∀ i, i < wd → F i = ((f i).toNat : Int)) : Lib.Bytes w b 0 (bsx ((List.range wd).map f)) := by
  intro i hi
  have hs : (bsx ((List.range wd).map f)).size = wd := by simp [bsx, ByteArray.size]
  have hi' : i < wd := by omega
  rw [Nat.zero_add, (hr i hi').1, hF i hi']
  have : (bsx ((List.range wd).map f))[i] = f i := by
    show ((List.range wd).map f).toArray[i]'(by simpa using hi') = f i
    simp
  rw [this]
theorem bsx_size (l : List UInt8) : (bsx l).size = l.length := by simp [bsx, ByteArray.size]

structure Mat (w : World) (G h wd : Nat) (rb : Nat → Nat) (F : Nat → Nat → Int) : Prop where
  lo : ∀ r, r < h → G < rb r
  up : ∀ r, r < h → rb r < w.heap.size
  row : ∀ r, r < h → RowOf w (rb r) wd (F r)
  inj : ∀ r s, r < h → s < h → rb r = rb s → r = s
theorem Mat.zero (w : World) (G wd : Nat) (rb : Nat → Nat) (F : Nat → Nat → Int) : Mat w G 0 wd rb F := ⟨fun _ h => absurd h (Nat.not_lt_zero _), fun _ h => absurd h (Nat.not_lt_zero _), fun _ h => absurd h (Nat.not_lt_zero _), fun _ _ h => absurd h (Nat.not_lt_zero _)⟩
theorem Mat.call {w w' : World} {G h wd : Nat} {rb : Nat → Nat} {F : Nat → Nat → Int} (H : Mat w G h wd rb F) (hb : Below w.heap.size w w') : Mat w' G h wd rb F :=
  ⟨H.lo, fun r hr => Nat.lt_of_lt_of_le (H.up r hr) hb.size, fun r hr => (H.row r hr).below hb (H.up r hr), H.inj⟩
theorem Mat.congr {w : World} {G h wd : Nat} {rb : Nat → Nat} {F F' : Nat → Nat → Int} (H : Mat w G h wd rb F) (e : ∀ r i, r < h → i < wd → F r i = F' r i) : Mat w G h wd rb F' :=
  ⟨H.lo, H.up, fun r hr => (H.row r hr).congr (fun i hi => e r i hr hi), H.inj⟩
theorem size_setCell (w : World) (p : Addr) (u : Value) : (w.setCell p u).heap.size = w.heap.size := by simp [World.setCell]
theorem Mat.far {w : World} {G h wd : Nat} {rb : Nat → Nat} {F : Nat → Nat → Int} (H : Mat w G h wd rb F) (i : Nat) (u : Value) : Mat (w.setCell ⟨G, i, none⟩ u) G h wd rb F :=
  ⟨H.lo, fun r hr => by rw [size_setCell]; exact H.up r hr, fun r hr => (H.row r hr).block (Below.heap_setCell w _ u _ (by have := H.lo r hr; show rb r ≠ G; omega)), H.inj⟩
theorem Mat.set {w : World} {G h wd : Nat} {rb : Nat → Nat} {F : Nat → Nat → Int} (H : Mat w G h wd rb F) {r i : Nat} (hr : r < h) (hi : i < wd) (v : Int) : Mat (w.setCell ⟨rb r, i, none⟩ (.int .u8 v)) G h wd rb (fun r' i' => if r' = r ∧ i' = i then v else F r' i') := by
  refine ⟨H.lo, fun s hs => by rw [size_setCell]; exact H.up s hs, fun s hs => ?_, H.inj⟩
  by_cases e : s = r
  · subst e
    refine ((H.row s hs).set hi v).congr fun j hj => ?_
    by_cases h : j = i <;> simp [h]
  · refine ((H.row s hs).block (Below.heap_setCell w _ _ _ (fun h => e (H.inj s r hs hr h)))).congr fun j hj => ?_
    simp [e]
theorem Mat.add {w w' : World} {G h wd b : Nat} {rb : Nat → Nat} {F : Nat → Nat → Int} (H : Mat w G h wd rb F) (hG : G < w.heap.size) (hb : Below w.heap.size w w') (h1 : w.heap.size ≤ b) (h2 : b < w'.heap.size) (hr : RowOf w' b wd (F h)) : Mat w' G (h + 1) wd (fun r => if r = h then b else rb r) F := by
  have H' := H.call hb
  refine ⟨fun r hr' => ?_, fun r hr' => ?_, fun r hr' => ?_, fun r s hr' hs e => ?_⟩
  · by_cases e : r = h
    · simp only [e, if_true]; omega
    · simp only [e, if_false]; exact H.lo r (by omega)
  · by_cases e : r = h
    · simp only [e, if_true]; omega
    · simp only [e, if_false]; exact H'.up r (by omega)
  · by_cases e : r = h
    · subst e; simp only [if_true]; exact hr
    · simp only [e, if_false]; exact H'.row r (by omega)
  · by_cases e1 : r = h
    · by_cases e2 : s = h
      · omega
      · simp only [e1, e2, if_true, if_false] at e
        have := H.up s (by omega)
        omega
    · by_cases e2 : s = h
      · simp only [e1, e2, if_true, if_false] at e
        have := H.up r (by omega)
        omega
      · simp only [e1, e2, if_false] at e
        exact H.inj r s (by omega) (by omega) e
/-- The slices of the first k rows; nil behind them. -/
def rowsA (h wd : Nat) (rb : Nat → Nat) (k : Nat) : Array Value := ((List.range h).map fun r => if r < k then Value.slice (some ⟨rb r, 0, none⟩) wd wd else .slice none 0 0).toArray
theorem rowsA_at {h wd : Nat} {rb : Nat → Nat} {k r : Nat} (hr : r < k) (hk : k ≤ h) : (rowsA h wd rb k)[r]? = some (.slice (some ⟨rb r, 0, none⟩) wd wd) := by
  unfold rowsA
  rw [List.getElem?_toArray, List.getElem?_map, List.getElem?_range (by omega)]
  simp [hr]
theorem rowsA_nil {h wd : Nat} {rb : Nat → Nat} {k r : Nat} (hr : r < h) (hk : k ≤ r) : (rowsA h wd rb k)[r]? = some (.slice none 0 0) := by
  unfold rowsA
  rw [List.getElem?_toArray, List.getElem?_map, List.getElem?_range hr]
  have : ¬ r < k := by omega
  simp [this]
theorem rowsA_zero (h wd : Nat) (rb : Nat → Nat) : rowsA h wd rb 0 = Array.replicate h (.slice none 0 0) := by
  apply Array.ext
  · simp [rowsA]
  · intro i h1 h2
    simp [rowsA]
theorem rowsA_succ {h wd : Nat} {rb : Nat → Nat} {k b : Nat} (hk : k < h) : (rowsA h wd rb k).setIfInBounds k (.slice (some ⟨b, 0, none⟩) wd wd) = rowsA h wd (fun r => if r = k then b else rb r) (k + 1) := by
  apply Array.ext
  · simp [rowsA]
  · intro i h1 h2
    have hi : i < h := by simpa [rowsA] using h2
    rw [Array.getElem_setIfInBounds (by simpa [rowsA] using hi)]
    by_cases e : k = i
    · subst e; simp [rowsA]
    · have e' : ¬ i = k := fun h => e h.symm
      have e2 : i < k + 1 ↔ i < k := by omega
      simp [rowsA, e, e', e2]
/-- The strings of a row of strings. -/
def strsA (h : Nat) (X : Nat → ByteArray) : Array Value := ((List.range h).map fun r => Value.string (X r)).toArray
theorem strsA_at {h : Nat} {X : Nat → ByteArray} {r : Nat} (hr : r < h) : (strsA h X)[r]? = some (.string (X r)) := by
  unfold strsA
  rw [List.getElem?_toArray, List.getElem?_map, List.getElem?_range hr]
  rfl
theorem strsA_set {h : Nat} {X : Nat → ByteArray} {r : Nat} (hr : r < h) (s : ByteArray) : (strsA h X).setIfInBounds r (.string s) = strsA h (fun j => if j = r then s else X j) := by
  apply Array.ext
  · simp [strsA]
  · intro i h1 h2
    have hi : i < h := by simpa [strsA] using h2
    rw [Array.getElem_setIfInBounds (by simpa [strsA] using hi)]
    by_cases e : r = i
    · subst e; simp [strsA]
    · have e' : ¬ i = r := fun h => e h.symm
      simp [strsA, e, e']
theorem strsA_congr {h : Nat} {X Y : Nat → ByteArray} (e : ∀ r, r < h → X r = Y r) : strsA h X = strsA h Y := by
  unfold strsA
  congr 1
  apply List.map_congr_left
  intro r hr
  rw [e r (List.mem_range.1 hr)]
/-- The picture after the first k columns. -/
noncomputable def colF (D : Nds) (n : Nat) (N : Nat → ByteArray) (p : Nat) (Hi : Nat → Int) (wd : Nat) (h : Int) (k : Nat) : Nat → Nat → Int := fun r c => if c < k then ((pch D n N p Hi wd h (r : Int) c).toNat : Int) else 32
/-- Column k: the water, the ground, and the invert over it. -/
theorem colF_succ {D : Nds} {n : Nat} {N : Nat → ByteArray} {p : Nat} {Hi : Nat → Int} {wd : Nat} {h : Int} {k x R : Nat} {ri rg : Nat} (hx : x = ndI D n N (k * p / wd)) (hri : (ri : Int) = rowZ (pTop D n N p) (pBot D n N p) h (D.Iv x)) (hrg : (rg : Int) = rowZ (pTop D n N p) (pBot D n N p) h (D.Gd x))
    {W : Nat → Prop} [DecidablePred W] (hW : ∀ r : Nat, W r ↔ (D.Iv x < Hi x ∧ rowZ (pTop D n N p) (pBot D n N p) h (Hi x) ≤ (r : Int) ∧ (r : Int) ≤ rowZ (pTop D n N p) (pBot D n N p) h (D.Iv x))) (r c : Nat) :
    (if r = ri ∧ c = k then (95 : Int) else if r = rg ∧ c = k then 61 else if c = k ∧ W r then 126 else colF D n N p Hi wd h k r c) = colF D n N p Hi wd h (k + 1) r c := by
  unfold colF
  by_cases hc : c = k
  · subst hc
    have h1 : ¬ c < c := Nat.lt_irrefl _
    have h2 : c < c + 1 := Nat.lt_succ_self _
    simp only [h1, h2, if_false, if_true, and_true, true_and]
    unfold pch chr
    rw [← hx, ← hri, ← hrg]
    by_cases e1 : r = ri
    · subst e1; simp
    · have e1' : ¬ (r : Int) = (ri : Int) := by omega
      simp only [e1, e1', if_false]
      by_cases e2 : r = rg
      · subst e2; simp
      · have e2' : ¬ (r : Int) = (rg : Int) := by omega
        simp only [e2, e2', if_false]
        by_cases e3 : W r
        · have e4 := (hW r).1 e3
          rw [← hri] at e4
          simp [e3, e4]
        · have e4 : ¬ _ := fun q => e3 ((hW r).2 q)
          rw [← hri] at e4
          rw [if_neg e3, if_neg e4]
          rfl
  · have h1 : c < k + 1 ↔ c < k := by omega
    simp [hc, h1]
theorem colF_row {D : Nds} {n : Nat} {N : Nat → ByteArray} {p : Nat} {Hi : Nat → Int} {wd : Nat} {h : Int} {w : World} {b r : Nat} (hr : RowOf w b wd (colF D n N p Hi wd h wd r)) : Lib.Bytes w b 0 (prow D n N p Hi wd h (r : Int) wd) :=
  hr.bytes fun i hi => by unfold colF; rw [if_pos hi]
theorem prow_size (D : Nds) (n : Nat) (N : Nat → ByteArray) (p : Nat) (Hi : Nat → Int) (wd : Nat) (h r : Int) (i : Nat) : (prow D n N p Hi wd h r i).size = i := by unfold prow; rw [bsx_size]; simp
theorem prow_zero (D : Nds) (n : Nat) (N : Nat → ByteArray) (p : Nat) (Hi : Nat → Int) (wd : Nat) (h r : Int) : prow D n N p Hi wd h r 0 = ByteArray.empty := rfl
theorem prow_one (D : Nds) (n : Nat) (N : Nat → ByteArray) (p : Nat) (Hi : Nat → Int) (wd : Nat) (h r : Int) (i : Nat) : prow D n N p Hi wd h r (i + 1) = prow D n N p Hi wd h r i ++ bsx [pch D n N p Hi wd h r i] := by
  unfold prow
  rw [List.range_succ, List.map_append]
  apply ByteArray.ext
  rw [ByteArray.data_append]
  apply Array.toList_inj.1
  simp [bsx]
/-- A buffer of copies of one byte: its first bytes are copied behind it. -/
theorem copy_self {P : Program} {w0 wr : World} {h N bp c : Nat} {t ty e : TypeId} (x : UInt8) (hu : P.underlying t = some (.slice e)) (hs : (P.info? e).map (·.size) = some 1) (hb : Lib.Buf w0 wr h N (List.replicate bp x)) (hc : 1 ≤ c) (hN : bp + c ≤ N) (sl cc : Nat) (hcs : c = min (N - bp) sl) (hcb : sl ≤ bp) :
    ∃ wr', (Builtin.copy_ #[t, t] ty #[Lib.tailV h N bp, .slice (some ⟨h, 0, none⟩) sl cc]).run P wr = .ok (.int .i64 (c : Int)) wr' ∧ Lib.Buf w0 wr' h N (List.replicate (bp + c) x) := by
  have hne : ¬ N = bp := by omega
  have hlen : ((List.replicate c x).map fun x => Value.int .u8 (x.toNat : Int)).length = c := by simp
  have hr := run_copy_cells (P := P) wr t t ty e h bp (N - bp) (N - bp) ⟨h, 0, none⟩ sl cc ((List.replicate c x).map fun x => Value.int .u8 (x.toNat : Int)) hu hs (by rw [hlen]; show c = min sl (N - bp); omega)
    (fun j u hj => by
      rw [List.getElem?_map] at hj
      obtain ⟨y, hy, rfl⟩ := Option.map_eq_some_iff.1 hj
      obtain ⟨hj', rfl⟩ := List.getElem?_eq_some_iff.1 hy
      have hjc : j < c := by simpa using hj'
      have : (⟨h, 0, none⟩ : Addr).add j = ⟨h, j, none⟩ := by unfold Addr.add; split <;> simp_all
      rw [this]
      exact hb.holds j _ (by rw [List.getElem?_replicate]; simp; omega))
    (fun j hj => by rw [hlen] at hj; exact hb.there _ (by omega)) (fun j hj => by rw [hlen] at hj; exact hb.free _ (by omega))
    (fun u hu' => by obtain ⟨x, _, rfl⟩ := List.mem_map.1 hu'; rfl)
  rw [hlen] at hr
  refine ⟨_, by unfold Lib.tailV; rw [if_neg hne]; exact hr, ?_⟩
  have hin := World.cell?_setCells_in h ((List.replicate c x).map fun x => Value.int .u8 (x.toNat : Int)) bp wr (fun j hj => by rw [hlen] at hj; exact hb.there _ (by omega))
  have hout := World.cell?_setCells_out h ((List.replicate c x).map fun x => Value.int .u8 (x.toNat : Int)) bp wr
  refine ⟨?_, ?_, ?_, ?_, by simp; omega⟩
  · exact Lib.below_setCells h (Nat.le_refl _) _ _ hb.below
  · intro j hj
    by_cases h1 : bp ≤ j ∧ j < bp + c
    · obtain ⟨d, rfl⟩ : ∃ d, j = bp + d := ⟨j - bp, by omega⟩
      rw [hin d (by rw [hlen]; omega)]
      rfl
    · rw [hout ⟨h, j, none⟩ (fun _ _ => by rw [hlen]; show j < _ ∨ _ ≤ j; omega)]
      exact hb.there j hj
  · intro j hj
    rw [World.frozen?_setCells]
    exact hb.free j hj
  · intro j y hy
    obtain ⟨hj', rfl⟩ := List.getElem?_eq_some_iff.1 hy
    have hjc : j < bp + c := by simpa using hj'
    by_cases h1 : j < bp
    · rw [hout ⟨h, j, none⟩ (fun _ _ => Or.inl h1)]
      exact hb.holds j _ (by rw [List.getElem?_replicate]; simp [h1])
    · obtain ⟨d, rfl⟩ : ∃ d, j = bp + d := ⟨j - bp, by omega⟩
      rw [hin d (by rw [hlen]; omega)]
      simp
theorem buf_row {w0 wr : World} {h N : Nat} {x : UInt8} (hb : Lib.Buf w0 wr h N (List.replicate N x)) : RowOf wr h N (fun _ => (x.toNat : Int)) := fun i hi => ⟨hb.holds i x (by rw [List.getElem?_replicate]; simp [hi]), hb.free i hi⟩
end Go.Proofs.YtdgfljkhnifemaaGreatDoor

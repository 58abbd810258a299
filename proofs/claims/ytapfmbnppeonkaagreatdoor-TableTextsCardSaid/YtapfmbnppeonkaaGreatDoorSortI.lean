/- slices.Sort and slices.Compact of integers that the call owns. -/
import Derived.Test.YtapfmbnppeonkaaGreatDoorShelfTwo
import Derived.Test.YtapfmbnppeonkaaGreatDoorMgD
import Derived.Sort.OwnSortedInts
import Derived.Lib.RowBridge
namespace Go.Proofs.YtapfmbnppeonkaaGreatDoor
open Go.RowKit Go.Sort
set_option linter.unusedVariables false
set_option linter.unusedSimpArgs false

def ic (L : List Int) : List Value := L.map (Value.int .i64)
/-- A slice of integers that the call owns. -/
def XMem (w0 w : World) (g cap : Nat) (zs : List Int) : Prop := w.ownsRow w0.heap.size 3 1 (.slice (some ⟨g, 0, none⟩) zs.length cap) zs.length (ic zs) ∧ Below w0.heap.size w0 w
theorem XMem.parts {w0 w : World} {g cap : Nat} {zs : List Int} (h : XMem w0 w g cap zs) : ∃ cur, w0.heap.size ≤ g ∧ w.heap[g]? = some (.cells cur 3 (0, 0)) ∧ zs.length ≤ cap ∧ cap ≤ maxLen ∧ cur.size = cap * 1 ∧ cur.toList.take zs.length = ic zs := by
  rcases h.1.2 with ⟨h0, _⟩ | ⟨g', cap', cur, hv, hg, hb, hn, hc, hs, ht⟩
  · cases h0
  · cases hv
    exact ⟨cur, hg, hb, hn, hc, hs, by rw [Nat.mul_one] at ht; exact ht⟩
theorem XMem.holds {w0 w : World} {g cap : Nat} {zs : List Int} (h : XMem w0 w g cap zs) : Holds (Value.int .i64) w g 0 zs.toArray := by
  obtain ⟨cur, hg, hb, hn, hc, hs, ht⟩ := h.parts
  exact holds_of_blockI hb ht
theorem XMem.grow {w0 w w' : World} {g cap : Nat} {zs : List Int} (h : XMem w0 w g cap zs) (hg : w.grownBy w' (some g)) : Below w0.heap.size w0 w' := by
  obtain ⟨cur, hgg, hb, hn, hc, hs, ht⟩ := h.parts
  refine ⟨hg.os.trans h.2.os, hg.tape.trans h.2.tape, hg.output.trans h.2.output, Nat.le_trans h.2.size hg.size, fun k hk => ?_⟩
  refine (hg.block k (Nat.lt_of_lt_of_le hk h.2.size) ?_).trans (h.2.block k hk)
  intro e
  have := Option.some.inj e
  omega
theorem csort (w0 w : World) (g cap : Nat) (zs : List Int) (h : XMem w0 w g cap zs) (hz : zs.length ≤ 1000) :
    Calls Tryz.prog 38 #[.slice (some ⟨g, 0, none⟩) zs.length cap] w fun e w' => e = .returned (.tuple #[]) ∧ XMem w0 w' g cap (zs.mergeSort fun x y => decide (x ≤ y)) := by
  obtain ⟨cur, hgg, hb, hn, hc, hs, ht⟩ := h.parts
  have hlt : g < w.heap.size := (Array.getElem?_eq_some_iff.1 hb).1
  refine (Tryz.slices_Sort_int g 0 cap zs w h.holds hlt (by omega)).mono ?_
  rintro e w' ⟨rfl, n, os, rfl⟩
  refine ⟨rfl, ?_, h.grow (grownBy_sortedI _)⟩
  have hl : (zs.mergeSort fun x y => decide (x ≤ y)).length = zs.length := by simp
  have := ownsRow_sortedI (n := n) (os := os) (base := w0.heap.size) hl hgg hb hn hc hs
  rw [← hl] at this
  exact this
theorem ccompact (w0 w : World) (g cap : Nat) (zs : List Int) (h : XMem w0 w g cap zs) (hz : zs.length ≤ 1000) :
    Calls Tryz.prog 39 #[.slice (some ⟨g, 0, none⟩) zs.length cap] w fun e w' => e = .returned (.slice (some ⟨g, 0, none⟩) (Lib.compact zs).length cap) ∧ XMem w0 w' g cap (Lib.compact zs) := by
  obtain ⟨cur, hgg, hb, hn, hc, hs, ht⟩ := h.parts
  refine (Tryz.slices_Compact_int g 0 cap zs w h.holds (by omega) hn).mono ?_
  rintro e w' ⟨rfl, q, hw⟩
  have hcl := Lib.compact_length_le zs
  have hl : (Lib.compact zs ++ List.replicate (zs.length - (Lib.compact zs).length) 0).length = zs.length := by simp; omega
  have hg := grownBy_sortedI (w := w) (g := g) (n := q) (os := #[]) (Lib.compact zs ++ List.replicate (zs.length - (Lib.compact zs).length) 0).toArray
  have ho := ownsRow_sortedI (n := q) (os := #[]) (base := w0.heap.size) hl hgg hb hn hc hs
  rw [grow_empty, ← hw] at hg ho
  refine ⟨rfl, ⟨by simp [ic], .inr ?_⟩, h.grow hg⟩
  rcases ho.2 with ⟨h0, _⟩ | ⟨g', cap', cur', hv, hg', hb', hn', hc', hs', ht'⟩
  · cases h0
  · cases hv
    refine ⟨g, cap, cur', rfl, hgg, hb', by omega, hc, hs', ?_⟩
    rw [Nat.mul_one] at ht' ⊢
    have h2 : (cur'.toList.take zs.length).take (Lib.compact zs).length = ic (Lib.compact zs) := by
      rw [ht', List.map_append, List.take_append_of_le_length (by simp)]
      exact List.take_of_length_le (by simp)
    rwa [List.take_take, Nat.min_eq_left hcl] at h2
end Go.Proofs.YtapfmbnppeonkaaGreatDoor

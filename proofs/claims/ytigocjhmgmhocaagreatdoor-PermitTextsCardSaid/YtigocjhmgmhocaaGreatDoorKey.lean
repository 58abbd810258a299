/- slices.Sorted(maps.Keys(accounts)). -/
import Derived.Test.YtigocjhmgmhocaaGreatDoorAcm
import Derived.Test.YtigocjhmgmhocaaGreatDoorShelfK
import Derived.Shelf.SlIterI.Nil
import Derived.Shelf.SortM.Plain
import Derived.Shelf.SortM.SortNone
namespace Go.Proofs.YtigocjhmgmhocaaGreatDoor
open Go.RowKit Go.Maps Go.Sort Go.Shelf
set_option linter.unusedVariables false
set_option linter.unusedSimpArgs false

theorem sortsA (m : Nat) : AnyZI.SortsIn Tryz.prog Tryz.sortedA_ren Fence.wide m :=
  ⟨fun blk off cap ss W hH hblk hsz => callsIn_wide.2 (AnyM.slices_Sort_int Tryz.sortA blk off cap ss W hH hblk hsz),
   fun p cap W => callsIn_wide.2 (AnyM.slices_Sort_int_none Tryz.sortA p cap W)⟩
theorem tkeys (mb : Option Nat) (W : World) : Calls Tryz.prog 37 #[.map mb] W fun e w' => e = .returned (.func (.func 58) #[] #[.pointer (some ⟨W.heap.size, 0, none⟩)]) ∧ w' = W.alloc (.cells #[.map mb] 75) :=
  (callsIn_wide (n := 5)).1 (AnyZI.keys_in Tryz.keysA Fence.wide 5 trivial rfl mb W)
theorem tsorted (b nn : Nat) (D0 : DataW Unit) (w : World) (hown : w.ownsMap Tryz.prog 3 accE b nn D0) (hmax : Maps.size D0 ≤ maxLen) (hbytes : Maps.size D0 * 8 ≤ 140737488355328) :
    Calls Tryz.prog 36 #[.func (.func 58) #[] #[.pointer (some ⟨w.heap.size, 0, none⟩)]] (w.alloc (.cells #[.map (some b)] 75)) fun e w' => ∃ (v : Value) (ss : List Int), e = .returned v ∧ ss.Perm (intKeys D0) ∧
      w'.ownsRow (w.alloc (.cells #[.map (some b)] 75)).heap.size 3 1 v ss.length ((ss.mergeSort (fun x y => decide (x ≤ y))).map encZ) ∧ (v = .slice none 0 0 ↔ ss = []) ∧ Below (w.alloc (.cells #[.map (some b)] 75)).heap.size (w.alloc (.cells #[.map (some b)] 75)) w' := by
  have hbl := hown.lt
  have hseq : SeqGives Fence.wide 2 Tryz.prog 58 #[.pointer (some ⟨w.heap.size, 0, none⟩)] encZ (fun ss => ss.Perm (intKeys D0)) (Maps.size D0) (w.alloc (.cells #[.map (some b)] 75)) :=
    AnyZI.keys_gives (ρ := Tryz.keysA_ren) { Tryz.keysA with } Fence.wide _ trivial rfl (by omega) w.heap.size b nn D0 _ (by simp) (by simp) (by
      obtain ⟨es, clock, hb, Ft, hs, hD⟩ := hown
      exact ⟨es, clock, (Below.heap_alloc _ _ b hbl).trans hb, Ft, hs, hD⟩)
  exact (callsIn_wide (n := 5)).1 (AnyZI.sorted_in Tryz.sortedA Fence.wide 5 trivial trivial trivial trivial rfl (by omega) (sortsA _) (enters_of Tryz.func57 (by kernel_rfl) rfl) 58 #[.pointer (some ⟨w.heap.size, 0, none⟩)] trivial (enters_of Tryz.func58 (by kernel_rfl) rfl) _ _ hmax hbytes _ hseq)
def kX39 (K : List Int) (k : Nat) : Int := K.getD k 0
/-- The accounts' years, sorted. -/
theorem tsortedK {w : World} {b n : Nat} {Y T : Nat → Int} (h : AMem w b Y T n) (ha : Asc Y n) (hn : n ≤ 40) :
    Calls Tryz.prog 36 #[.func (.func 58) #[] #[.pointer (some ⟨w.heap.size, 0, none⟩)]] (w.alloc (.cells #[.map (some b)] 75)) fun e w' => ∃ (A : Option Addr) (N cap : Nat), e = .returned (.slice A N cap) ∧ N = (keysTo Y n).length ∧ N ≤ 40 ∧ IntIn w' A N (kX39 (keysTo Y n)) ∧ Below w.heap.size w w' := by
  obtain ⟨D, hD, hp⟩ := h.keys ha
  have hs := hD.size_le
  refine (tsorted b n D w hD (by simp only [maxLen]; omega) (by omega)).mono ?_
  rintro e w' ⟨v, ss, rfl, hss, hown, _, hb⟩
  have hk := sorted_is (keys_lt ha) (hss.trans hp.symm)
  have hl : ss.length = (keysTo Y n).length := (hss.trans hp.symm).length_eq
  have hl40 : (keysTo Y n).length ≤ n := by
    rw [hp.length_eq]
    refine Nat.le_trans ?_ hs
    obtain ⟨es, rfl⟩ := hD.isMap
    show (es.map _).length ≤ es.length
    simp
  rw [hk, hl] at hown
  have hB : Below w.heap.size w w' := ((Below.refl _ w).alloc (Nat.le_refl _) _).trans (hb.mono (by simp))
  rcases hown.2 with ⟨hv, h0⟩ | ⟨g, cap, cur, hv, _, _, hnc, _⟩
  · exact ⟨none, 0, 0, by rw [hv], h0.symm, by omega, ⟨by omega, .inl rfl⟩, hB⟩
  · refine ⟨some ⟨g, 0, none⟩, _, cap, by rw [hv], rfl, by omega, ⟨by omega, .inr ⟨g, 0, rfl, ?_⟩⟩, hB⟩
    rw [hv] at hown
    refine ⟨(hown.lt g rfl).2, fun k hk => ?_⟩
    rw [Nat.zero_add, hown.cellAt k (by omega)]
    simp [kX39, List.getD, hk]
end Go.Proofs.YtigocjhmgmhocaaGreatDoor

/- A catalogue of one valid section is valid, by the package. -/
import Derived.Test.YtchapkjloicfnaaSec
import Derived.Test.YtchapkjloicfnaaCircle
import Derived.Maps.Own
import Derived.Maps.OwnOps
namespace Go.Proofs.Ytchapkjloicfnaa
open Go.RowKit Go.Maps
set_option linter.unusedVariables false
set_option linter.unusedSimpArgs false

theorem kstr : Keyed Try.prog 9 := string_keyed Try.underlying9
theorem zbool (w : World) : (zeroValue 4).run Try.prog w = .ok (.bool false) w := by kernel_rfl
/-- A key is not in a map that holds nothing. -/
theorem look_none {w : World} {b n : Nat} (h : w.ownsMap (H := Unit) Try.prog 9 (plainElem Try.prog 4) b n (.map [])) {nm : ByteArray} (hn : nm.size ≤ maxLen) :
    (Instr.lookup 72 (.map (some b)) (.string nm) false).run Try.prog w = .ok (.bool false) w := by
  obtain ⟨v, ps, hrun, hv⟩ := h.lookup kstr Try.underlying72 (zbool w) (plainElem_bool Try.underlying4 false) (WideMaps.keyOf_string_mk Try.underlying9 hn)
  have e : (DataW.map [] : DataW Unit).atKey (.string nm.data.toList) (.lit (.bool false)) = .lit (.bool false) := rfl
  rw [e] at hv
  have hv2 : v = .bool false := by
    unfold plainElem at hv
    split at hv
    · simp at hv; simp [hv]
    · split at hv <;> simp at hv
    · split at hv <;> simp at hv
    · cases hv
  rw [hrun, hv2]

theorem put_true {w : World} {b n : Nat} (h : w.ownsMap (H := Unit) Try.prog 9 (plainElem Try.prog 4) b n (.map [])) (hn0 : n = 0) {nm : ByteArray} (hn : nm.size ≤ maxLen) :
    ∃ w', (Instr.mapUpdate 72 (.map (some b)) (.string nm) (.bool true)).run Try.prog w = .ok () w' ∧ w.grownBy w' (some b) := by
  obtain ⟨w', hr, _, hg⟩ := h.update kstr Try.underlying72 (by rw [hn0]; simp [maxLen]) (WideMaps.keyOf_string_mk Try.underlying9 hn) (plainElem_bool Try.underlying4 true)
  exact ⟨w', hr, hg⟩

set_option maxRecDepth 100000 in
set_option maxHeartbeats 2000000 in
theorem cvalid_one (nm : ByteArray) (h p : Int) (A C : Option Addr) (na ca nc cc g c : Nat) (AX AY CX CY : Nat → Int) (w : World) (hn : nm.size ≤ maxLen) (hA : TabIn w A na AX AY) (hC : TabIn w C nc CX CY)
    (hok : SecOK nm.data.toList h p na AX AY nc CX CY) (hg : Blk w g 25 #[.string nm, .int .i64 h, .int .i64 p, .slice A na ca, .slice C nc cc]) :
    Calls Try.prog 20 #[.slice (some ⟨g, 0, none⟩) 1 c] w fun e w' => e = .returned (.bool true) ∧ Below w.heap.size w w' := by
  have SV := Lib.hid fun w hA hC => cvalid nm h p A C na ca nc cc AX AY CX CY w hn hA hC
  have tv := boolOf_true hok
  have HA := Lib.hid hA
  have HC := Lib.hid hC
  have HG := Lib.hid hg
  have hmm := @run_makeMap Try.prog
  have HN := Lib.hid hn
  clear hA hC hok hg hn
  go_enter Try.func20, Try.ntmps20
  go_wp2_with fail
  have HM0 : Hid ((w.alloc (.map #[] 0)).ownsMap (H := Unit) Try.prog 9 (plainElem Try.prog 4) w.heap.size 0 (.map []) ∧ Below w.heap.size w (w.alloc (.map #[] 0))) := ⟨World.ownsMap_made _ _ _ _, by (repeat' (first | assumption | exact Below.refl _ _ | exact Below.size (by assumption) | (refine Below.setCell ?_ ?_ _) | (refine Below.alloc ?_ ?_ _) | (refine Below.drew ?_) | (refine below_drewN ?_ _) | (refine Below.trans ?_ (Below.mono ‹Below _ _ _› ?_)) | omega | (simp; done) | (simp; omega) | (simp at *; omega)))⟩
  go_loopw [12] (fun u wr => ∃ i : Nat, u = .int .i64 i ∧ ((i = 0 ∧ Hid (wr.ownsMap (H := Unit) Try.prog 9 (plainElem Try.prog 4) w.heap.size 0 (.map []))) ∨ i = 1) ∧ Hid (Below w.heap.size w wr)) (fun u _ => (1 - intOf u).toNat)
  case atStart => exact ⟨0, rfl, .inl ⟨rfl, HM0.out.1⟩, HM0.out.2⟩
  case round =>
    obtain ⟨i, rfl, hi, HW⟩ := hrel
    rcases hi with ⟨rfl, HM⟩ | rfl
    · have HA' := Lib.hid (HA.out.below (Nat.le_refl _) HW.out)
      have HC' := Lib.hid (HC.out.below (Nat.le_refl _) HW.out)
      have HB := Lib.hid (HG.out.below HW.out HG.out.lt)
      have a0 := HB.out.cell 0
      have a1 := HB.out.cell 1
      have a2 := HB.out.cell 2
      have a3 := HB.out.cell 3
      have a4 := HB.out.cell 4
      simp only [List.getElem?_toArray, List.getElem?_cons_succ, List.getElem?_cons_zero] at a0 a1 a2 a3 a4
      have hbl := HM.out.lt
      have HE : Hid (∀ w1 : World, Below (wr.alloc (.cells #[.string nm, .int .i64 h, .int .i64 p, .slice A na ca, .slice C nc cc] 25)).heap.size (wr.alloc (.cells #[.string nm, .int .i64 h, .int .i64 p, .slice A na ca, .slice C nc cc] 25)) w1 → (Instr.lookup 72 (.map (some w.heap.size)) (.string nm) false).run Try.prog w1 = .ok (.bool false) w1 ∧
          ∃ w2, (Instr.mapUpdate 72 (.map (some w.heap.size)) (.string nm) (.bool true)).run Try.prog w1 = .ok () w2 ∧ Below w.heap.size w w2) := fun w1 hb => by
        have hk := (HM.out.alloc (.cells #[.string nm, .int .i64 h, .int .i64 p, .slice A na ca, .slice C nc cc] 25)).kept (w' := w1) (row := none) (only_of_below hb none) (by simp)
        obtain ⟨w2, hr, hg⟩ := put_true hk rfl HN.out
        refine ⟨look_none hk HN.out, w2, hr, ?_⟩
        have hw1 : Below w.heap.size w w1 := (HW.out.alloc (by omega) _).trans (hb.mono (by simp; omega))
        exact hw1.grown hg (by have := hw1.size; omega) (fun k hk => by injection hk with hk; omega)
      go_wp2_with (first | ((go_at_call 33; (with_reducible refine (SV.out _ ?_ ?_).mono ?_); (focus (exact HA'.out.below (Nat.le_refl _) (by (repeat' (first | assumption | exact Below.refl _ _ | exact Below.size (by assumption) | (refine Below.setCell ?_ ?_ _) | (refine Below.alloc ?_ ?_ _) | (refine Below.drew ?_) | (refine below_drewN ?_ _) | (refine Below.trans ?_ (Below.mono ‹Below _ _ _› ?_)) | omega | (simp; done) | (simp; omega) | (simp at *; omega)))))); (focus (exact HC'.out.below (Nat.le_refl _) (by (repeat' (first | assumption | exact Below.refl _ _ | exact Below.size (by assumption) | (refine Below.setCell ?_ ?_ _) | (refine Below.alloc ?_ ?_ _) | (refine Below.drew ?_) | (refine below_drewN ?_ _) | (refine Below.trans ?_ (Below.mono ‹Below _ _ _› ?_)) | omega | (simp; done) | (simp; omega) | (simp at *; omega)))))); rintro e w1 ⟨rfl, hb1⟩; obtain ⟨hc1, hf1⟩ := bcell hb1; have hz1 := hb1.size; (try simp at hz1); (try simp only [heap_drew, World.heap_drewN] at hz1); (try simp only [heap_drew, World.heap_drewN] at hc1); (try simp only [heap_drew, World.heap_drewN] at hf1); (try have hs1 := Nat.lt_of_succ_le hz1); (try have hs2 := Nat.lt_of_succ_lt hs1); (try have y0 : w.heap.size < w1.heap.size := by omega); (try have y1 : w.heap.size + 1 < w1.heap.size := by omega); (try have y2 : w.heap.size + 2 < w1.heap.size := by omega)); obtain ⟨hlk, w2, hup, hb2⟩ := HE.out w1 hb1; have HB2 := Lib.hid hb2; clear hb2))
      go_roundw
      case rel => exact ⟨1, rfl, .inr rfl, HB2.out⟩
      case measure => simp [intOf]
    · go_wp2_with fail
      go_ret
      exact ⟨rfl, HW.out⟩
end Go.Proofs.Ytchapkjloicfnaa

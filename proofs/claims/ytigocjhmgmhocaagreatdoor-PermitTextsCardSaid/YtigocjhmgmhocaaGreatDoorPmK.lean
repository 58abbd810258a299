/- permit.line, whole; strings.CutSuffix at the line's end. -/
import Derived.Test.YtigocjhmgmhocaaGreatDoorPmL
namespace Go.Proofs.YtigocjhmgmhocaaGreatDoor
open Go.RowKit Go.Shelf
set_option linter.unusedVariables false
set_option linter.unusedSimpArgs false

theorem xsize (s : ByteArray) (hs : s.size ≤ 100000) (k : Nat) : ((words s).getD k ByteArray.empty).size ≤ 100000 := by
  by_cases h : k < (words s).length
  · have e : (words s).getD k ByteArray.empty = (words s)[k] := by simp [List.getD, h]
    rw [e]
    have hm := List.getElem_mem h
    unfold words at hm
    obtain ⟨l, hl, e2⟩ := List.mem_map.1 hm
    have := wds_sub _ l hl
    have e3 : ((words s)[k]).size = l.length := by
      unfold words at h ⊢
      rw [← e2]; rfl
    rw [e3]
    have := size_lst s
    omega
  · have e : (words s).getD k ByteArray.empty = ByteArray.empty := by simp [List.getD, h]
    rw [e]
    show 0 ≤ _
    omega
theorem wlen_le (s : ByteArray) : (words s).length ≤ s.size + 1 := by
  rw [words_len, size_lst]
  have : Lib.countByte s.data.toList 32 ≤ s.data.toList.length := List.count_le_length
  omega
theorem list5 {L : List ByteArray} (h : L.length = 5) : L = [L.getD 0 ByteArray.empty, L.getD 1 ByteArray.empty, L.getD 2 ByteArray.empty, L.getD 3 ByteArray.empty, L.getD 4 ByteArray.empty] := by
  match L, h with
  | [a, b, c, d, e], _ => rfl
theorem tpline_ok (s : ByteArray) (hs : s.size ≤ 100000) (p : Pmr) (hp : formP p) (h : s.data.toList = pln p) (w : World) (hE : Env5 w) :
    Calls Tryz.prog 29 #[.string s] w fun e w' => e = .returned (.tuple #[.agg #[.string p.nm, .string p.nd, .int .i64 p.ev, .int .i64 p.vol, .int .i64 p.tot], .bool true]) ∧ Below w.heap.size w w' := by
  have hw := words_of_pln h hp
  obtain ⟨X, hX⟩ : ∃ X : Nat → ByteArray, X = fun k => (words s).getD k ByteArray.empty := ⟨_, rfl⟩
  have hsz : ∀ k, (X k).size ≤ 100000 := fun k => by rw [hX]; exact xsize s hs k
  have x0 : X 0 = p.nm := by rw [hX, hw]; rfl
  have x1 : X 1 = p.nd := by rw [hX, hw]; rfl
  have x2 : X 2 = ⟨(Lib.itoa p.ev).toArray⟩ := by rw [hX, hw]; rfl
  have x3 : X 3 = ⟨(Lib.itoa p.vol).toArray⟩ := by rw [hX, hw]; rfl
  have x4 : X 4 = ⟨(Lib.itoa p.tot).toArray⟩ := by rw [hX, hw]; rfl
  have S := pline_go s hs X hX (by rw [hw]; rfl) (by rw [x0]; exact hp.nm) (by rw [x1]; exact hp.nd) hsz (fun j => match j with | 0 => p.ev | 1 => p.vol | _ => p.tot) 3 (Nat.le_refl _) (fun j hj => by
    have : j = 0 ∨ j = 1 ∨ j = 2 := by omega
    rcases this with rfl | rfl | rfl
    · rw [x2]; exact ⟨hp.ev, by simp⟩
    · rw [x3]; exact ⟨hp.vol, by simp⟩
    · rw [x4]; exact ⟨hp.tot, by simp⟩) (fun h => absurd h (by omega)) w hE
  rw [if_pos rfl, x0, x1] at S
  exact S
theorem tpline_no (s : ByteArray) (hs : s.size ≤ 100000) (hno : ∀ p, formP p → s.data.toList ≠ pln p) (w : World) (hE : Env5 w) :
    Calls Tryz.prog 29 #[.string s] w fun e w' => e = .returned (.tuple #[.agg #[.string ⟨#[]⟩, .string ⟨#[]⟩, .int .i64 0, .int .i64 0, .int .i64 0], .bool false]) ∧ Below w.heap.size w w' := by
  obtain ⟨X, hX⟩ : ∃ X : Nat → ByteArray, X = fun k => (words s).getD k ByteArray.empty := ⟨_, rfl⟩
  have hsz : ∀ k, (X k).size ≤ 100000 := fun k => by rw [hX]; exact xsize s hs k
  have hl := wlen_le s
  by_cases h5 : (words s).length = 5
  case neg => exact pline_bad s hs X hX _ rfl (by omega) (.inl h5) hsz w
  by_cases hv : nameB (X 0).data.toList = true ∧ nameB (X 1).data.toList = true
  case neg =>
    refine pline_bad s hs X hX _ rfl (by omega) (.inr ⟨h5, ?_⟩) hsz w
    by_cases h0 : nameB (X 0).data.toList = true
    · right
      cases h1 : nameB (X 1).data.toList with
      | false => rfl
      | true => exact absurd ⟨h0, h1⟩ hv
    · left; simpa using h0
  obtain ⟨hv0, hv1⟩ := hv
  have go := fun V K hK hok hbad => pline_go s hs X hX h5 hv0 hv1 hsz V K hK hok hbad w hE
  have fin : ∀ (V : Nat → Int) (K : Nat), K < 3 → (∀ j, j < K → NumW (X (j + 2)) (V j)) → (∀ v, ¬ NumW (X (K + 2)) v) → Calls Tryz.prog 29 #[.string s] w fun e w' => e = .returned (.tuple #[.agg #[.string ⟨#[]⟩, .string ⟨#[]⟩, .int .i64 0, .int .i64 0, .int .i64 0], .bool false]) ∧ Below w.heap.size w w' := fun V K hK hok hb => by
    have S := go V K (by omega) hok (fun _ => hb)
    rw [if_neg (by omega)] at S
    exact S
  by_cases g2 : ∃ v, NumW (X 2) v
  case neg => exact fin (fun _ => 0) 0 (by omega) (fun j hj => by omega) (fun v h => g2 ⟨v, h⟩)
  obtain ⟨v2, g2⟩ := g2
  by_cases g3 : ∃ v, NumW (X 3) v
  case neg => exact fin (fun _ => v2) 1 (by omega) (fun j hj => by have : j = 0 := by omega
                                                                   subst this; exact g2) (fun v h => g3 ⟨v, h⟩)
  obtain ⟨v3, g3⟩ := g3
  by_cases g4 : ∃ v, NumW (X 4) v
  case neg => exact fin (fun j => if j = 0 then v2 else v3) 2 (by omega) (fun j hj => by
      have : j = 0 ∨ j = 1 := by omega
      rcases this with rfl | rfl
      · exact g2
      · exact g3) (fun v h => g4 ⟨v, h⟩)
  obtain ⟨v4, g4⟩ := g4
  have hw := list5 h5
  have e : words s = [X 0, X 1, X 2, X 3, X 4] := by rw [hX]; exact hw
  exact absurd (pln_of_words e g2 g3 g4) (hno ⟨X 0, X 1, v2, v3, v4⟩ ⟨hv0, hv1, g2.1, g3.1, g4.1⟩)
/-- strings.CutSuffix at the line's end. -/
def endB (s : ByteArray) : Bool := Lib.hasSuffix s.data.toList [10]
def endC (s : ByteArray) : ByteArray := if endB s then s.extract 0 (s.size - 1) else s
theorem end_true {s : ByteArray} (h : endB s = true) : s.data.toList = (endC s).data.toList ++ [10] := by
  unfold endC
  rw [if_pos h]
  unfold endB Lib.hasSuffix at h
  obtain ⟨a, ha⟩ := List.isSuffixOf_iff_suffix.1 h
  have hsz : s.size = a.length + 1 := by rw [size_lst, ← ha]; simp
  rw [ByteArray.data_extract, Array.toList_extract, ← ha, hsz]
  simp
theorem end_of {s : ByteArray} {a : List UInt8} (h : s.data.toList = a ++ [10]) : endB s = true ∧ (endC s).data.toList = a := by
  have h1 : endB s = true := by
    unfold endB Lib.hasSuffix
    rw [h]
    exact List.isSuffixOf_iff_suffix.2 ⟨a, rfl⟩
  exact ⟨h1, by have := end_true h1; rw [h] at this; exact (List.append_cancel_right this).symm⟩
theorem endC_size (s : ByteArray) : (endC s).size ≤ s.size := by
  unfold endC
  split
  · rw [ByteArray.size_extract]; omega
  · exact Nat.le_refl _
set_option maxHeartbeats 1000000 in
theorem tcutsuf0 (s : ByteArray) (hs : s.size ≤ 8388608) (w : World) : Calls Tryz.prog 47 #[.string s, .string ⟨#[10]⟩] w fun e w' => e = .returned (.tuple #[.string (endC s), .bool (endB s)]) ∧ Below w.heap.size w w' := by
  have S : Hid (∀ w : World, Calls Tryz.prog 64 #[.string s, .string ⟨#[10]⟩] w fun e w' => e = .returned (.bool (endB s)) ∧ w' = w) := fun w => Tryz.stringslite_HasSuffix s ⟨#[10]⟩ w (by omega)
  cases hb : endB s with
  | false =>
    have e : endC s = s := by unfold endC; rw [hb]; simp
    rw [hb] at S
    rw [e]
    clear hb e hs
    go_enter Tryz.func47, Tryz.ntmps47
    go_wp2_with (first | (go_at_call 64; (with_reducible refine (S.out _).mono ?_); rintro e w' ⟨rfl, rfl⟩))
    go_ret2
    exact ⟨rfl, by (repeat' (first | assumption | exact Below.refl _ _ | exact Below.size (by assumption) | (refine Below.setCell ?_ ?_ _) | (refine Below.alloc ?_ ?_ _) | (refine Below.drew ?_) | (refine below_drewN ?_ _) | (refine Below.trans ?_ (Below.mono ‹Below _ _ _› ?_)) | omega | (simp; done) | (simp; omega) | (simp at *; omega)))⟩
  | true =>
    have h1 : 1 ≤ s.size := by
      have := congrArg List.length (end_true hb)
      rw [← size_lst] at this
      simp at this; omega
    obtain ⟨k, hk⟩ : ∃ k, s.size - 1 = k := ⟨_, rfl⟩
    have e : endC s = s.extract 0 k := by unfold endC; rw [hb, ← hk]; simp
    rw [hb] at S
    rw [e]
    have t1 : IntKind.i64.wrap ((s.size : Int) - 1) = (k : Int) := by rw [IntKind.wrap_i64]; omega
    have t2 : k ≤ s.size := by omega
    have t3 : (k : Int) ≤ (s.size : Int) := by omega
    clear hb e hs h1 hk
    go_enter Tryz.func47, Tryz.ntmps47
    go_wp2_with (first | (go_at_call 64; (with_reducible refine (S.out _).mono ?_); rintro e w' ⟨rfl, rfl⟩))
    go_ret2
    exact ⟨by simp [*], by (repeat' (first | assumption | exact Below.refl _ _ | exact Below.size (by assumption) | (refine Below.setCell ?_ ?_ _) | (refine Below.alloc ?_ ?_ _) | (refine Below.drew ?_) | (refine below_drewN ?_ _) | (refine Below.trans ?_ (Below.mono ‹Below _ _ _› ?_)) | omega | (simp; done) | (simp; omega) | (simp at *; omega)))⟩
theorem tcutsuf (s : ByteArray) (hs : s.size ≤ 8388608) (w : World) : Calls Tryz.prog 28 #[.string s, .string ⟨#[10]⟩] w fun e w' => e = .returned (.tuple #[.string (endC s), .bool (endB s)]) ∧ Below w.heap.size w w' := by
  have S := Lib.hid fun w => tcutsuf0 s hs w
  clear hs
  go_enter Tryz.func28, Tryz.ntmps28
  go_wp2_with (first | (go_at_call 47; (with_reducible refine (S.out _).mono ?_); rintro e w1 ⟨rfl, hb1⟩; obtain ⟨hc1, hf1⟩ := bcell hb1; have hz1 := hb1.size; (try simp at hz1); (try simp only [heap_drew, World.heap_drewN] at hz1); (try simp only [heap_drew, World.heap_drewN] at hc1); (try simp only [heap_drew, World.heap_drewN] at hf1); (try have hs1 := Nat.lt_of_succ_le hz1); (try have hs2 := Nat.lt_of_succ_lt hs1); (try have y0 : w.heap.size < w1.heap.size := by omega); (try have y1 : w.heap.size + 1 < w1.heap.size := by omega); (try have y2 : w.heap.size + 2 < w1.heap.size := by omega)))
  go_ret2
  refine ⟨rfl, ?_⟩
  (repeat' (first | assumption | exact Below.refl _ _ | exact Below.size (by assumption) | (refine Below.setCell ?_ ?_ _) | (refine Below.alloc ?_ ?_ _) | (refine Below.drew ?_) | (refine below_drewN ?_ _) | (refine Below.trans ?_ (Below.mono ‹Below _ _ _› ?_)) | omega | (simp; done) | (simp; omega) | (simp at *; omega)))
end Go.Proofs.YtigocjhmgmhocaaGreatDoor

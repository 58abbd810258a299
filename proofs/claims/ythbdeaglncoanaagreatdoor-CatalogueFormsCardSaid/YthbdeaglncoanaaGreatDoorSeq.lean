/- strings.SplitSeq at a space: the closure, and that it hands out the words of the text. -/
import Derived.Test.YthbdeaglncoanaaGreatDoorRng
import Derived.Test.YthbdeaglncoanaaGreatDoorPrsP
import Derived.Test.YthbdeaglncoanaaGreatDoorShelf
import Derived.Test.YthbdeaglncoanaaGreatDoorBase
import Derived.Shelf.Abstract
import Derived.Shelf.RegionOpen
import Derived.WalkKit
import Derived.OwnWalkIn
import Derived.TacticsInMore
import Derived.LoopNIn
import Derived.LoopIn
namespace Go.Proofs.YthbdeaglncoanaaGreatDoor
open Go.RowKit Go.Shelf
set_option linter.unusedVariables false
set_option linter.unusedSimpArgs false
attribute [local go_sem] Oper.semAt_some

/-- The worlds' cells of the closure. -/
structure SpAt (w : World) (b : Nat) (s : ByteArray) : Prop where
  lt : b + 2 < w.heap.size
  s0 : w.cell? ⟨b, 0, none⟩ = some (.string s)
  f0 : w.frozen? ⟨b, 0, none⟩ = false
  s1 : w.cell? ⟨b + 1, 0, none⟩ = some (.string ⟨#[32]⟩)
  s2 : w.cell? ⟨b + 2, 0, none⟩ = some (.int .i64 0)
def Kp3 (b : Nat) (A B : World) : Prop := A.heap.size ≤ B.heap.size ∧ ∀ k, b ≤ k → k ≤ b + 2 → B.heap[k]? = A.heap[k]?
theorem Kp3.t {b : Nat} {A B C : World} (h : Kp3 b A B) (h' : Kp3 b B C) : Kp3 b A C := ⟨Nat.le_trans h.1 h'.1, fun k h1 h2 => (h'.2 k h1 h2).trans (h.2 k h1 h2)⟩
theorem SpAt.keep {w w' : World} {b : Nat} {s : ByteArray} (h : SpAt w b s) (k : Kp3 b w w') : SpAt w' b s :=
  ⟨Nat.lt_of_lt_of_le h.lt k.1, (World.cell?_of_block (k.2 b (Nat.le_refl _) (by omega))).trans h.s0, (World.frozen?_of_block (k.2 b (Nat.le_refl _) (by omega))).trans h.f0, (World.cell?_of_block (k.2 (b + 1) (by omega) (by omega))).trans h.s1, (World.cell?_of_block (k.2 (b + 2) (by omega) (by omega))).trans h.s2⟩
theorem SpAt.put {w : World} {b : Nat} {s : ByteArray} (h : SpAt w b s) (r : ByteArray) : SpAt (w.setCell ⟨b, 0, none⟩ (.string r)) b r :=
  ⟨by have : (w.setCell ⟨b, 0, none⟩ (.string r)).heap.size = w.heap.size := by simp [World.setCell]
      rw [this]; exact h.lt,
   World.cell?_setCell_same' _ _ _ (by rw [h.s0]; rfl), by rw [World.frozen?_setCell]; exact h.f0, (World.cell?_setCell_other w ⟨b, 0, none⟩ ⟨b + 1, 0, none⟩ _ (by simp)).trans h.s1, (World.cell?_setCell_other w ⟨b, 0, none⟩ ⟨b + 2, 0, none⟩ _ (by simp)).trans h.s2⟩
def left (b : Nat) (w : World) : Nat := match w.cell? ⟨b, 0, none⟩ with | some (.string r) => r.size + 1 | _ => 0
theorem left_eq {w : World} {b : Nat} {s : ByteArray} (h : SpAt w b s) : left b w = s.size + 1 := by unfold left; rw [h.s0]
/-- The words of a text, as strings. -/
def words (s : ByteArray) : List ByteArray := (wds s.data.toList).map fun l => ⟨l.toArray⟩
theorem bytes_of (s : ByteArray) : (⟨s.data.toList.toArray⟩ : ByteArray) = s := by obtain ⟨⟨l⟩⟩ := s; rfl
theorem index_split (l : List UInt8) (c : UInt8) : (c ∉ l ∧ Lib.indexByte l c = -1) ∨ ∃ a b, l = a ++ c :: b ∧ c ∉ a ∧ Lib.indexByte l c = (a.length : Int) := by
  induction l with
  | nil => exact .inl ⟨by simp, rfl⟩
  | cons x l ih =>
    unfold Lib.indexByte
    by_cases h : x = c
    · subst h
      exact .inr ⟨[], l, rfl, by simp, by simp⟩
    · have h1 : (x == c) = false := by simp [h]
      rw [h1]
      simp only [Bool.false_eq_true, if_false]
      rcases ih with ⟨hn, e⟩ | ⟨a, b, e1, e2, e3⟩
      · exact .inl ⟨by simp [hn, Ne.symm h], by rw [e]; rfl⟩
      · refine .inr ⟨x :: a, b, by rw [e1]; rfl, by simp [e2, Ne.symm h], ?_⟩
        rw [e3]
        have : ((a.length : Int) == -1) = false := by simp <;> omega
        rw [this]
        simp
theorem words_cases (s : ByteArray) : (Lib.indexByte s.data.toList 32 = -1 ∧ words s = [s]) ∨ ∃ k : Nat, Lib.indexByte s.data.toList 32 = (k : Int) ∧ k < s.size ∧ words s = s.extract 0 k :: words (s.extract (k + 1) s.size) := by
  rcases index_split s.data.toList 32 with ⟨h, e⟩ | ⟨a, b, e1, e2, e3⟩
  · exact .inl ⟨e, by unfold words; rw [wds_plain h]; simp [bytes_of]⟩
  · have hsz : s.size = a.length + 1 + b.length := by
      have : s.size = s.data.toList.length := (Array.length_toList (xs := s.data)).symm
      rw [this, e1, List.length_append, List.length_cons]; omega
    refine .inr ⟨a.length, e3, by omega, ?_⟩
    have ea : s.extract 0 a.length = ⟨a.toArray⟩ := by
      apply ByteArray.ext
      rw [ByteArray.data_extract]
      apply Array.ext'
      rw [Array.toList_extract, e1]
      simp
    have eb : (s.extract (a.length + 1) s.size).data.toList = b := by
      rw [ByteArray.data_extract, Array.toList_extract, e1]
      simp [hsz]
    unfold words
    rw [eb, e1, wds_first e2, ea]
    rfl
set_option maxHeartbeats 1000000 in
theorem tsplit (s : ByteArray) (w : World) : Calls Tryz.prog 71 #[.string s, .string ⟨#[32]⟩] w fun e w' =>
    e = .returned (.func (.func 114) #[] #[.pointer (some ⟨w.heap.size + 1, 0, none⟩), .pointer (some ⟨w.heap.size, 0, none⟩), .pointer (some ⟨w.heap.size + 2, 0, none⟩)]) ∧ SpAt w' w.heap.size s ∧ Below w.heap.size w w' ∧ w'.heap.size = w.heap.size + 3 := by
  have S := Lib.hid (show ∀ w : World, Calls Tryz.prog 93 #[.string s, .string ⟨#[32]⟩, .int .i64 0] w fun e w' =>
    e = .returned (.func (.func 114) #[] #[.pointer (some ⟨w.heap.size + 1, 0, none⟩), .pointer (some ⟨w.heap.size, 0, none⟩), .pointer (some ⟨w.heap.size + 2, 0, none⟩)]) ∧ SpAt w' w.heap.size s ∧ Below w.heap.size w w' ∧ w'.heap.size = w.heap.size + 3 from fun w => by
      go_enter Tryz.func93, Tryz.ntmps93
      go_wp2_with fail
      go_ret
      have d0 := ((Blk.new w 9 #[.string s]).alloc (.cells #[.string ⟨#[32]⟩] 9)).alloc (.cells #[.int .i64 0] 3)
      have d1 := (Blk.new (w.alloc (.cells #[.string s] 9)) 9 #[.string ⟨#[32]⟩]).alloc (.cells #[.int .i64 0] 3)
      have d2 := Blk.new ((w.alloc (.cells #[.string s] 9)).alloc (.cells #[.string ⟨#[32]⟩] 9)) 3 #[.int .i64 0]
      simp only [World.size_alloc] at d1 d2
      exact ⟨rfl, ⟨by simp, d0.cell 0, d0.frozen 0, d1.cell 0, d2.cell 0⟩, (((Below.refl _ w).alloc (Nat.le_refl _) _).alloc (by simp) _).alloc (by simp <;> omega) _, by simp⟩)
  go_enter Tryz.func71, Tryz.ntmps71
  go_wp2_with (first | (go_at_call 93; (with_reducible refine (S.out _).mono ?_); rintro e w' ⟨rfl, hs, hb, hz⟩))
  go_ret
  exact ⟨rfl, hs, hb, hz⟩
set_option maxHeartbeats 2000000 in
theorem split_hands (s : ByteArray) (hs : s.size ≤ 8388608) (b : Nat) (w : World) (hw : SpAt w b s) :
    Hands Fence.wide 3 Tryz.prog 114 #[.pointer (some ⟨b + 1, 0, none⟩), .pointer (some ⟨b, 0, none⟩), .pointer (some ⟨b + 2, 0, none⟩)] (fun x : ByteArray => #[.string x]) b (Kp3 b) (words s) w := by
  intro l J Jx W hW hsz hJ hY h0
  have HJ := Lib.hid hJ
  have HY := Lib.hid hY
  have hWs : SpAt W b s := hw.keep ⟨hsz, fun k h1 h2 => hW k (by have := hw.lt; omega)⟩
  have HH := Lib.hid h0
  clear hJ hY hW hsz hw h0
  refine callsIn_of_wp Tryz.func114 rfl trivial ?_ rfl
  simp only [Tryz.ntmps114, List.size_toArray, List.length_cons, List.length_nil, Nat.reduceAdd, Nat.reduceSub, Array.replicate_succ, Array.replicate_zero, List.push_toArray, List.append_toArray, List.nil_append, List.cons_append]
  have c1 := hWs.s1
  gi_wp2_with fail
  gi_loopw [7] (fun y wr => ∃ (pre : List ByteArray) (r : ByteArray), Hid (words s = pre ++ words r) ∧ Hid (r.size ≤ s.size) ∧ SpAt wr b r ∧ Hid (J pre wr)) (fun y wr => left b wr)
  case atStart => exact ⟨[], s, rfl, Nat.le_refl _, hWs, HH⟩
  case round =>
    obtain ⟨pre, r, Hx, Hr, hw, Hj⟩ := hrel
    have c0 := hw.s0
    have c1 := hw.s1
    have c2 := hw.s2
    have cf := hw.f0
    have S := Lib.hid fun w => Tryz.strings_Index_one r 32 w
    rcases words_cases r with ⟨hi, hwr⟩ | ⟨k, hi, hk, hwr⟩
    · rw [hi] at S
      have hx : words s = pre ++ r :: [] := by rw [Hx.out, hwr]
      obtain ⟨fn, tmps, assign, body, hy, hR⟩ := HY.out pre r [] wr hx Hj.out
      have HR := Lib.hid hR
      clear hR hi hwr
      gi_wp2_with (refine ⟨trivial, ?_⟩; gi_at_call 89; refine (callsIn_wide.2 (S.out _)).mono ?_; rintro e w' ⟨rfl, rfl⟩)
      refine HR.out.mono ?_
      rintro e W' (⟨rfl, hJ', _⟩ | ⟨rfl, hJ'⟩)
      · gi_wp2
        go_end0
        exact ⟨⟨_, rfl⟩, .inl (by rw [hx]; exact hJ')⟩
      · gi_wp2
        go_end0
        exact ⟨⟨_, rfl⟩, .inr ⟨_, hJ'⟩⟩
    · rw [hi] at S
      obtain ⟨x, hx⟩ : ∃ z, r.extract 0 k = z := ⟨_, rfl⟩
      obtain ⟨k1, hk1⟩ : ∃ z, z = k + 1 := ⟨_, rfl⟩
      rw [← hk1] at hwr
      obtain ⟨r', hr'⟩ : ∃ z, r.extract k1 r.size = z := ⟨_, rfl⟩
      rw [hx, hr'] at hwr
      have hxs : words s = pre ++ x :: words r' := by rw [Hx.out, hwr]
      obtain ⟨fn, tmps, assign, body, hy, hR⟩ := HY.out pre x (words r') wr hxs Hj.out
      have HR := Lib.hid hR
      have hrs : r'.size + k1 = r.size := by rw [← hr', ByteArray.size_extract]; omega
      have t0 : decide ((k : Int) < 0) = false := decide_eq_false (by omega)
      have t1 : k ≤ r.size := by omega
      have t2 : (k : Int) ≤ (r.size : Int) := by omega
      have t3 : IntKind.i64.wrap ((k : Int) + 0) = (k : Int) := by have := Hr.out; rw [IntKind.wrap_i64]; omega
      have t3' : IntKind.i64.wrap (k : Int) = (k : Int) := by have := Hr.out; rw [IntKind.wrap_i64]; omega
      have t4 : IntKind.i64.wrap ((k : Int) + 1) = (k1 : Int) := by have := Hr.out; rw [IntKind.wrap_i64]; omega
      have t5 : k1 ≤ r.size := by omega
      have t6 : (k1 : Int) ≤ (r.size : Int) := by omega
      have HZ := Lib.hid hrs
      have H1 := Lib.hid hk1
      have Hxs := Lib.hid hxs
      clear hR hi hwr hrs hk hk1 hxs
      gi_wp2_with (refine ⟨trivial, ?_⟩; gi_at_call 89; refine (callsIn_wide.2 (S.out _)).mono ?_; rintro e w' ⟨rfl, rfl⟩)
      refine HR.out.mono ?_
      rintro e W' (⟨rfl, hJ', hK'⟩ | ⟨rfl, hJ'⟩)
      · have hw' := hw.keep hK'
        have c0' := hw'.s0
        have c1' := hw'.s1
        have cf' := hw'.f0
        have HJ' := Lib.hid hJ'
        have HS : Hid (SpAt (W'.setCell ⟨b, 0, none⟩ (.string r')) b r') := hw'.put r'
        have HM : Hid (left b (W'.setCell ⟨b, 0, none⟩ (.string r')) < left b w') := by show _ < _; rw [left_eq hw, left_eq HS.out]; have := HZ.out; have := H1.out; omega
        have HJ2 : Hid (J (pre ++ [x]) (W'.setCell ⟨b, 0, none⟩ (.string r'))) := HJ.out _ _ _ (some b) hJ' (grownBy_setCell' _ _ _) (fun q e => by cases e; rfl)
        clear hJ' hw hw' c0 c1 c2 cf hy hK'
        gi_wp2_with fail
        go_roundw
        case rel => exact ⟨pre ++ [x], r', by show _ = _; rw [Hxs.out]; simp, by show _ ≤ _; have := HZ.out; have := Hr.out; omega, HS.out, HJ2⟩
        case measure => exact HM.out
      · gi_wp2
        refine bodyPost_ret (results_none rfl _ _ _) rfl ?_
        exact ⟨⟨_, rfl⟩, .inr ⟨_, hJ'⟩⟩
end Go.Proofs.YthbdeaglncoanaaGreatDoor

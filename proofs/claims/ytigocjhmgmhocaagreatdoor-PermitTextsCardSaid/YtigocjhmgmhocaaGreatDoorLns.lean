/- strings.Lines: the closure, and that it hands out the lines of the text. -/
import Derived.Test.YtigocjhmgmhocaaGreatDoorRng
import Derived.Test.YtigocjhmgmhocaaGreatDoorPtP
import Derived.Test.YtigocjhmgmhocaaGreatDoorShelf
import Derived.Test.YtigocjhmgmhocaaGreatDoorBase
import Derived.Shelf.Abstract
import Derived.Shelf.RegionOpen
import Derived.WalkKit
import Derived.OwnWalkIn
import Derived.TacticsInMore
import Derived.LoopNIn
import Derived.LoopIn
namespace Go.Proofs.YtigocjhmgmhocaaGreatDoor
open Go.RowKit Go.Shelf
set_option linter.unusedVariables false
set_option linter.unusedSimpArgs false
attribute [local go_sem] Oper.semAt_some

structure LnAt (w : World) (b : Nat) (s : ByteArray) : Prop where
  lt : b < w.heap.size
  s0 : w.cell? ⟨b, 0, none⟩ = some (.string s)
  f0 : w.frozen? ⟨b, 0, none⟩ = false
def Kp1 (b : Nat) (A B : World) : Prop := A.heap.size ≤ B.heap.size ∧ B.heap[b]? = A.heap[b]?
theorem Kp1.t {b : Nat} {A B C : World} (h : Kp1 b A B) (h' : Kp1 b B C) : Kp1 b A C := ⟨Nat.le_trans h.1 h'.1, h'.2.trans h.2⟩
theorem Kp1.of_below {b B : Nat} {A C : World} (h : Below B A C) (hb : b < B) : Kp1 b A C := ⟨h.size, h.block b hb⟩
theorem LnAt.keep {w w' : World} {b : Nat} {s : ByteArray} (h : LnAt w b s) (k : Kp1 b w w') : LnAt w' b s :=
  ⟨Nat.lt_of_lt_of_le h.lt k.1, (World.cell?_of_block k.2).trans h.s0, (World.frozen?_of_block k.2).trans h.f0⟩
theorem LnAt.put {w : World} {b : Nat} {s : ByteArray} (h : LnAt w b s) (r : ByteArray) : LnAt (w.setCell ⟨b, 0, none⟩ (.string r)) b r :=
  ⟨by have : (w.setCell ⟨b, 0, none⟩ (.string r)).heap.size = w.heap.size := by simp [World.setCell]
      rw [this]; exact h.lt,
   World.cell?_setCell_same' _ _ _ (by rw [h.s0]; rfl), by rw [World.frozen?_setCell]; exact h.f0⟩
def leftL (b : Nat) (w : World) : Nat := match w.cell? ⟨b, 0, none⟩ with | some (.string r) => r.size + 1 | _ => 0
theorem leftL_eq {w : World} {b : Nat} {s : ByteArray} (h : LnAt w b s) : leftL b w = s.size + 1 := by unfold leftL; rw [h.s0]
/-- The lines of a text, as strings. -/
def lines (s : ByteArray) : List ByteArray := (rl s.data.toList).map fun l => ⟨l.toArray⟩
theorem bytes_of (s : ByteArray) : (⟨s.data.toList.toArray⟩ : ByteArray) = s := by obtain ⟨⟨l⟩⟩ := s; rfl
theorem size_lst (o : ByteArray) : o.size = o.data.toList.length := (Array.length_toList (xs := o.data)).symm
theorem index_split (l : List UInt8) (c : UInt8) : (c ∉ l ∧ Lib.indexByte l c = -1) ∨ ∃ a b, l = a ++ c :: b ∧ c ∉ a ∧ Lib.indexByte l c = (a.length : Int) := by
  induction l with
  | nil => exact .inl ⟨by simp, rfl⟩
  | cons x l ih =>
    unfold Lib.indexByte
    by_cases h : x = c
    · subst h
      exact .inr ⟨[], l, rfl, by simp, by simp⟩
    · have h1 : (x == c) = false := by simp [h]
      rw [h1]
      simp only [Bool.false_eq_true, if_false]
      rcases ih with ⟨hn, e⟩ | ⟨a, b, e1, e2, e3⟩
      · exact .inl ⟨by simp [hn, Ne.symm h], by rw [e]; rfl⟩
      · refine .inr ⟨x :: a, b, by rw [e1]; rfl, by simp [e2, Ne.symm h], ?_⟩
        rw [e3]
        have : ((a.length : Int) == -1) = false := by simp <;> omega
        rw [this]
        simp
theorem lines_nil : lines ⟨#[]⟩ = [] := rfl
theorem lines_cases (s : ByteArray) (h0 : 0 < s.size) : (Lib.indexByte s.data.toList 10 = -1 ∧ lines s = [s]) ∨ ∃ k : Nat, Lib.indexByte s.data.toList 10 = (k : Int) ∧ k < s.size ∧ lines s = s.extract 0 (k + 1) :: lines (s.extract (k + 1) s.size) := by
  rcases index_split s.data.toList 10 with ⟨h, e⟩ | ⟨a, b, e1, e2, e3⟩
  · refine .inl ⟨e, ?_⟩
    unfold lines
    rw [rl_one h (fun e => by have := size_lst s; rw [e, List.length_nil] at this; omega)]
    simp [bytes_of]
  · have hsz : s.size = a.length + 1 + b.length := by
      rw [size_lst, e1, List.length_append, List.length_cons]; omega
    refine .inr ⟨a.length, e3, by omega, ?_⟩
    have ea : s.extract 0 (a.length + 1) = ⟨(a ++ [10]).toArray⟩ := by
      apply ByteArray.ext
      rw [ByteArray.data_extract]
      apply Array.ext'
      rw [Array.toList_extract, e1]
      simp only [List.extract_eq_take_drop, List.drop_zero, Nat.sub_zero]
      rw [show a ++ 10 :: b = (a ++ [10]) ++ b from by simp, show a.length + 1 = (a ++ [10]).length from by simp, List.take_left]
    have eb : (s.extract (a.length + 1) s.size).data.toList = b := by
      rw [ByteArray.data_extract, Array.toList_extract, e1]
      simp [hsz]
    unfold lines
    rw [eb, e1, rl_cut _ e2, ea]
    rfl
set_option maxHeartbeats 1000000 in
theorem tlines (s : ByteArray) (w : World) : Calls Tryz.prog 27 #[.string s] w fun e w' =>
    e = .returned (.func (.func 45) #[] #[.pointer (some ⟨w.heap.size, 0, none⟩)]) ∧ LnAt w' w.heap.size s ∧ Below w.heap.size w w' ∧ w'.heap.size = w.heap.size + 1 := by
  go_enter Tryz.func27, Tryz.ntmps27
  go_wp2_with fail
  go_ret
  have d0 := Blk.new w 9 #[.string s]
  exact ⟨rfl, ⟨by simp, d0.cell 0, d0.frozen 0⟩, (Below.refl _ w).alloc (Nat.le_refl _) _, by simp⟩
theorem grown_set_drew (W : World) (b : Nat) (v : Value) : W.grownBy (W.setCell ⟨b, 0, none⟩ v).drew (some b) := by
  have h := grownBy_setCell' W b v
  exact ⟨h.os, h.tape, h.output, h.size, h.block⟩
set_option maxHeartbeats 2000000 in
theorem lines_hands (s : ByteArray) (hs : s.size ≤ 8388608) (b : Nat) (w : World) (hw : LnAt w b s) :
    Hands Fence.wide 3 Tryz.prog 45 #[.pointer (some ⟨b, 0, none⟩)] (fun x : ByteArray => #[.string x]) b (Kp1 b) (lines s) w := by
  intro l J Jx W hW hsz hJ hY h0
  have HJ := Lib.hid hJ
  have HY := Lib.hid hY
  have hWs : LnAt W b s := hw.keep ⟨hsz, hW b hw.lt⟩
  have HH := Lib.hid h0
  clear hJ hY hW hsz hw h0
  refine callsIn_of_wp Tryz.func45 rfl trivial ?_ rfl
  simp only [Tryz.ntmps45, List.size_toArray, List.length_cons, List.length_nil, Nat.reduceAdd, Nat.reduceSub, Array.replicate_succ, Array.replicate_zero, List.push_toArray, List.append_toArray, List.nil_append, List.cons_append]
  gi_wp2_with fail
  gi_loopw [4] (fun y wr => ∃ (pre : List ByteArray) (r : ByteArray), Hid (lines s = pre ++ lines r) ∧ Hid (r.size ≤ s.size) ∧ LnAt wr b r ∧ Hid (J pre wr)) (fun y wr => leftL b wr)
  case atStart => exact ⟨[], s, rfl, Nat.le_refl _, hWs, HH⟩
  case round =>
    obtain ⟨pre, r, Hx, Hr, hw, Hj⟩ := hrel
    have c0 := hw.s0
    have cf := hw.f0
    have hmx : Tryz.prog.follows .mixedOrders = true := by kernel_rfl
    by_cases hr0 : 0 < r.size
    case neg =>
      have e0 : r = ⟨#[]⟩ := by
        obtain ⟨⟨l⟩⟩ := r
        have : l = [] := List.eq_nil_of_length_eq_zero (by have : ¬ 0 < l.length := hr0; omega)
        rw [this]
      have T0 : decide ((0 : Int) < (r.size : Int)) = false := decide_eq_false (by omega)
      have T0' : decide (0 < r.size) = false := decide_eq_false hr0
      have hx : lines s = pre := by rw [Hx.out, e0, lines_nil, List.append_nil]
      clear e0 hr0
      gi_wp2_with fail
      go_end0
      exact ⟨⟨_, rfl⟩, .inl (by rw [hx]; exact Hj.out)⟩
    have T0 : decide ((0 : Int) < (r.size : Int)) = true := decide_eq_true (by omega)
    have T0' : decide (0 < r.size) = true := decide_eq_true hr0
    have S : Hid (∀ w : World, Calls Tryz.prog 46 #[.string r, .int .u8 10] w fun e w' => e = .returned (.int .i64 (Lib.indexByte r.data.toList 10)) ∧ w' = w) := fun w => Tryz.strings_IndexByte r 10 w
    rcases lines_cases r hr0 with ⟨hi, hwr⟩ | ⟨k, hi, hk, hwr⟩
    · rw [hi] at S
      have hxs : lines s = pre ++ r :: lines ⟨#[]⟩ := by rw [Hx.out, hwr, lines_nil]
      have HS : Hid (LnAt (wr.setCell ⟨b, 0, none⟩ (.string ⟨#[]⟩)) b ⟨#[]⟩) := hw.put ⟨#[]⟩
      have HJ2 : Hid (J pre (wr.setCell ⟨b, 0, none⟩ (.string ⟨#[]⟩))) := HJ.out _ _ _ (some b) Hj.out (grownBy_setCell' _ _ _) (fun q e => by cases e; rfl)
      obtain ⟨fn, tmps, assign, body, hy, hR⟩ := HY.out pre r (lines ⟨#[]⟩) _ hxs HJ2.out
      have HR := Lib.hid hR
      have Hxs := Lib.hid hxs
      have HZ := Lib.hid hr0
      clear hR hi hwr hxs hr0
      gi_wp2_with (refine ⟨trivial, ?_⟩; gi_at_call 46; refine (callsIn_wide.2 (S.out _)).mono ?_; rintro e w' ⟨rfl, rfl⟩)
      refine HR.out.mono ?_
      rintro e W' (⟨rfl, hJ', hK'⟩ | ⟨rfl, hJ'⟩)
      · have HS' : Hid (LnAt W' b ⟨#[]⟩) := HS.out.keep hK'
        have HJ3 := Lib.hid hJ'
        have HM : Hid (leftL b W' < leftL b w') := by show _ < _; rw [leftL_eq hw, leftL_eq HS'.out]; have := HZ.out; show 0 + 1 < _; omega
        clear hJ' hK' hw c0 cf hy
        gi_wp2_with fail
        go_roundw
        case rel => exact ⟨pre ++ [r], ⟨#[]⟩, by show _ = _; rw [Hxs.out]; simp, Nat.zero_le _, HS'.out, HJ3⟩
        case measure => exact HM.out
      · gi_wp2
        refine bodyPost_ret (results_none rfl _ _ _) rfl ?_
        exact ⟨⟨_, rfl⟩, .inr ⟨_, hJ'⟩⟩
    · rw [hi] at S
      obtain ⟨k1, hk1⟩ : ∃ z, z = k + 1 := ⟨_, rfl⟩
      rw [← hk1] at hwr
      obtain ⟨x, hx⟩ : ∃ z, r.extract 0 k1 = z := ⟨_, rfl⟩
      obtain ⟨r', hr'⟩ : ∃ z, r.extract k1 r.size = z := ⟨_, rfl⟩
      rw [hx, hr'] at hwr
      have hxs : lines s = pre ++ x :: lines r' := by rw [Hx.out, hwr]
      have hrs : r'.size + k1 = r.size := by rw [← hr', ByteArray.size_extract]; omega
      have t0 : decide ((0 : Int) ≤ (k : Int)) = true := decide_eq_true (by omega)
      have t4 : IntKind.i64.wrap ((k : Int) + 1) = (k1 : Int) := by have := Hr.out; rw [IntKind.wrap_i64]; omega
      have t5 : k1 ≤ r.size := by omega
      have t6 : (k1 : Int) ≤ (r.size : Int) := by omega
      have HS : Hid (∀ W1, wr.grownBy W1 (some b) → W1.cell? ⟨b, 0, none⟩ = some (.string r') → W1.frozen? ⟨b, 0, none⟩ = false → LnAt W1 b r' ∧ J pre W1) := fun W1 hg h1 h2 => ⟨⟨Nat.lt_of_lt_of_le hw.lt hg.size, h1, h2⟩, HJ.out _ _ _ (some b) Hj.out hg (fun q e => by cases e; rfl)⟩
      have HZ := Lib.hid hrs
      have H1 := Lib.hid hk1
      have Hxs := Lib.hid hxs
      clear hi hwr hrs hk hk1 hxs hr0
      gi_wp2_with (refine ⟨trivial, ?_⟩; gi_at_call 46; refine (callsIn_wide.2 (S.out _)).mono ?_; rintro e w' ⟨rfl, rfl⟩)
      gi_region_with_o (fail)
      all_goals
        obtain ⟨hl3, hj3⟩ := HS.out _ (grown_set_drew w' b (.string r')) ((hw.put r').s0) ((hw.put r').f0)
        have hsz := leftL_eq hw
        generalize (w'.setCell ⟨b, 0, none⟩ (.string r')).drew = w3 at hl3 hj3 ⊢
        obtain ⟨fn, tmps, assign, body, hy, hR⟩ := HY.out pre x (lines r') w3 Hxs.out hj3
        have HR := Lib.hid hR
        have HL3 := Lib.hid hl3
        have HSZ := Lib.hid hsz
        clear hR hl3 hj3 hsz hw c0 cf
        gi_wp2_with fail
        refine HR.out.mono ?_
        rintro e W' (⟨rfl, hJ', hK'⟩ | ⟨rfl, hJ'⟩)
        · have HS' : Hid (LnAt W' b r') := HL3.out.keep hK'
          have HJ3 := Lib.hid hJ'
          have HM : Hid (leftL b W' < leftL b w') := by show _ < _; rw [HSZ.out, leftL_eq HS'.out]; have := HZ.out; have := H1.out; omega
          clear hJ' hK' hy
          gi_wp2_with fail
          go_roundw
          case rel => exact ⟨pre ++ [x], r', by show _ = _; rw [Hxs.out]; simp, by show _ ≤ _; have := HZ.out; have := Hr.out; omega, HS'.out, HJ3⟩
          case measure => exact HM.out
        · gi_wp2
          refine bodyPost_ret (results_none rfl _ _ _) rfl ?_
          exact ⟨⟨_, rfl⟩, .inr ⟨_, hJ'⟩⟩
end Go.Proofs.YtigocjhmgmhocaaGreatDoor

/- The reference's parts: a text cut at a byte. -/
import Derived.Test.YtigocjhmgmhocaaGreatDoorPqP
import Derived.Test.YtigocjhmgmhocaaGreatDoorRwT
namespace Go.Proofs.YtigocjhmgmhocaaGreatDoor
open Go.RowKit
set_option linter.unusedVariables false
set_option linter.unusedSimpArgs false

def wdc (c : UInt8) : List UInt8 → List (List UInt8)
  | [] => [[]]
  | d :: r => if d = c then [] :: wdc c r else (match wdc c r with | [] => [[d]] | h :: t => (d :: h) :: t)
theorem wdc_ne (c : UInt8) (l : List UInt8) : wdc c l ≠ [] := by
  induction l with
  | nil => simp [wdc]
  | cons d r ih =>
    unfold wdc
    split
    · simp
    · split <;> simp
theorem wdc_plain {c : UInt8} {l : List UInt8} (h : c ∉ l) : wdc c l = [l] := by
  induction l with
  | nil => rfl
  | cons d r ih =>
    have hc : ¬ d = c := fun e => h (by simp [e])
    unfold wdc
    rw [if_neg hc, ih (fun e => h (by simp [e]))]
theorem wdc_first {c : UInt8} {a b : List UInt8} (h : c ∉ a) : wdc c (a ++ c :: b) = a :: wdc c b := by
  induction a with
  | nil => simp [wdc]
  | cons d r ih =>
    have hc : ¬ d = c := fun e => h (by simp [e])
    simp only [List.cons_append, wdc, if_neg hc, ih (fun e => h (by simp [e]))]
theorem wdc_32 (l : List UInt8) : wdc 32 l = wds l := by
  induction l with
  | nil => rfl
  | cons d r ih =>
    simp only [wdc, wds, ih]
    first | done | (split <;> first | rfl | (cases wds r <;> rfl))
theorem wdc_len (c : UInt8) (l : List UInt8) : (wdc c l).length ≤ l.length + 1 := by
  induction l with
  | nil => simp [wdc]
  | cons d r ih =>
    unfold wdc
    split
    · simp; omega
    · cases e : wdc c r with
      | nil => exact absurd e (wdc_ne c r)
      | cons a t => rw [e] at ih; simp at ih ⊢; omega
/-- How far the reference has cut. -/
structure PaI (c : UInt8) (T : List UInt8) (f i : Nat) (R : List ByteArray) : Prop where
  fi : f ≤ i
  le : i ≤ T.length
  no : c ∉ (T.drop f).take (i - f)
  eq : wdc c T = R.map (·.data.toList) ++ wdc c (T.drop f)
  ln : R.length ≤ f
theorem PaI.start (c : UInt8) (T : List UInt8) : PaI c T 0 0 [] := ⟨Nat.le_refl _, Nat.zero_le _, by simp, by simp, Nat.zero_le _⟩
theorem drop_at {T : List UInt8} {i : Nat} (h : i < T.length) : T.drop i = T[i] :: T.drop (i + 1) := by rw [List.drop_eq_getElem_cons h]
theorem PaI.other {c : UInt8} {T : List UInt8} {f i : Nat} {R : List ByteArray} (h : PaI c T f i R) (hi : i < T.length) (hc : T[i] ≠ c) : PaI c T f (i + 1) R := by
  refine ⟨by have := h.fi; omega, hi, ?_, h.eq, h.ln⟩
  have hf := h.fi
  have e : (T.drop f).take (i + 1 - f) = (T.drop f).take (i - f) ++ [T[i]] := by
    rw [show i + 1 - f = (i - f) + 1 from by omega, List.take_add_one]
    congr 1
    rw [List.getElem?_drop, show f + (i - f) = i from by omega]
    simp [hi]
  rw [e, List.mem_append]
  rintro (h1 | h1)
  · exact h.no h1
  · rw [List.mem_singleton] at h1; exact hc h1.symm
theorem PaI.cut {c : UInt8} {s : ByteArray} {f i : Nat} {R : List ByteArray} (h : PaI c s.data.toList f i R) (hi : i < s.data.toList.length) (hc : s.data.toList[i] = c) : PaI c s.data.toList (i + 1) (i + 1) (R ++ [s.extract f i]) := by
  have hf := h.fi
  refine ⟨Nat.le_refl _, hi, by simp, ?_, by have := h.ln; simp; omega⟩
  have e1 : s.data.toList.drop f = (s.data.toList.drop f).take (i - f) ++ c :: s.data.toList.drop (i + 1) := by
    have := List.take_append_drop (i - f) (s.data.toList.drop f)
    rw [List.drop_drop, show f + (i - f) = i from by omega, drop_at hi, hc] at this
    exact this.symm
  have e2 : (s.extract f i).data.toList = (s.data.toList.drop f).take (i - f) := by
    rw [ByteArray.data_extract, Array.toList_extract, List.extract_eq_take_drop]
  rw [h.eq, List.map_append, List.map_cons, List.map_nil, e2]
  conv => lhs; rw [e1, wdc_first h.no]
  simp
theorem PaI.last {c : UInt8} {s : ByteArray} {f i : Nat} {R : List ByteArray} (h : PaI c s.data.toList f i R) (hi : i = s.size) : wdc c s.data.toList = (R ++ [s.extract f s.size]).map (·.data.toList) := by
  have hf := h.fi
  have e3 := size_lst s
  have e2 : (s.extract f s.size).data.toList = s.data.toList.drop f := by
    rw [ByteArray.data_extract, Array.toList_extract, List.extract_eq_take_drop]
    rw [List.take_of_length_le]
    rw [List.length_drop]; omega
  have hn := h.no
  rw [List.take_of_length_le (by rw [List.length_drop]; omega)] at hn
  rw [h.eq, wdc_plain hn, List.map_append, List.map_cons, List.map_nil, e2]
def wdcs (c : UInt8) (s : ByteArray) : List ByteArray := (wdc c s.data.toList).map fun l => ⟨l.toArray⟩
theorem wdcs_of {c : UInt8} {s : ByteArray} {R : List ByteArray} (h : wdc c s.data.toList = R.map (·.data.toList)) : wdcs c s = R := by
  unfold wdcs
  rw [h, List.map_map]
  conv => rhs; rw [← List.map_id R]
  apply List.map_congr_left
  intro a _
  exact bytes_of a
theorem h16_le {n : Nat} (h : n ≤ 30000) : (n + 1) * 16 ≤ 140737488355328 := by omega
def RPartsPost (w : World) (R : List ByteArray) (e : Ending) (w' : World) : Prop :=
  ∃ (g cap : Nat), e = .returned (.slice (some ⟨g, 0, none⟩) R.length cap) ∧ StrAt w' g 0 R.length (fun k => R.getD k ByteArray.empty) ∧ Below w.heap.size w w'
set_option maxRecDepth 100000 in
set_option maxHeartbeats 4000000 in
theorem rparts (s : ByteArray) (hs : s.size ≤ 5000) (c : UInt8) (w : World) : Calls Tryz.prog 31 #[.string s, .int .u8 (c.toNat : Int)] w (RPartsPost w (wdcs c s)) := by
  obtain ⟨i0, hi0, hz0, hz1, hz2⟩ := info_parts1 infoS
  have HI0 := Lib.hid hi0
  have HZ0 := Lib.hid hz0
  have HZ1 := Lib.hid hz1
  have HZ2 := Lib.hid hz2
  obtain ⟨cn, hcn⟩ : ∃ cn : Nat, c.toNat = cn := ⟨_, rfl⟩
  rw [hcn]
  have HCN := Lib.hid hcn
  have HSZ := Lib.hid hs
  have hsl := size_lst s
  have HSL := Lib.hid hsl
  clear hi0 hz0 hz1 hz2 hs hcn hsl
  go_enter Tryz.func31, Tryz.ntmps31
  go_wp2_with fail
  go_loopw [5, 6, 7] (fun u v x wr => ∃ (f i N : Nat) (R : List ByteArray), v = .int .i64 f ∧ x = .int .i64 i ∧ Hid (N = R.length) ∧ Hid (PaI c s.data.toList f i R) ∧ Hid (RMem5 w wr u N R)) (fun _ _ x _ => s.size + 1 - (intOf x).toNat)
  case atStart => exact ⟨0, 0, 0, [], rfl, rfl, rfl, PaI.start c _, World.ownsRow_nil _ _ _ _, Below.refl _ _⟩
  case round =>
    obtain ⟨f, i, N, R, rfl, rfl, HN, HA, HM⟩ := hrel
    obtain ⟨A0, cap0, h8⟩ := HM.out.form
    subst h8
    have h1 := HA.out.fi
    have h2 := HA.out.le
    have h3 := HA.out.ln
    have h4 := HSL.out
    have h5 := HSZ.out
    have h6 := HN.out
    by_cases hk : i < s.size
    case neg =>
      have T0 : decide ((i : Int) < (s.size : Int)) = false := decide_eq_false (by omega)
      have T0' : decide (i < s.size) = false := decide_eq_false hk
      have HE := Lib.hid (wdcs_of (HA.out.last (by omega)))
      have r0 : (0 : Int) ≤ (f : Int) := by omega
      have r1 : (f : Int) ≤ (s.size : Int) := by omega
      have r2 : f ≤ s.size := by omega
      have N5 : Hid (N ≤ 5000) := by show _ ≤ _; omega
      clear h1 h2 h3 h4 h5 h6 hk
      go_wp2_with (first
        | (at_builtin; refine wpList_append_own_at _ ?q1_1 (.tmp 28) (.tmp 32) 71 ?q1_2 (w.heap.size) 9 i0 (.string ByteArray.empty) 1 16 Tryz.underlying71 HI0.out HZ0.out HZ1.out HZ2.out ?q1_3 ?q1_4 (.slice A0 N cap0) N (sc R) ?q1_5 (HM.out.1.alloc _) ⟨wr.heap.size, 0, none⟩ 1 1 [.string (s.extract f s.size)] ?q1_7 (rfl) (World.news_of_block (cs := #[.string (s.extract f s.size)]) (t := 9) (fr := (0, 0)) (heap_alloc_new _ _)) (by simp [Value.oneCell']) (h63_le (by have := N5.out; omega)) (h16_le (by have := N5.out; omega)) (base_alloc1 HM.out.2.size _) ?q1_14
           case q1_1 => exact rfl
           case q1_2 => exact rfl
           case q1_3 => exact rfl
           case q1_4 => decide
           case q1_5 => exact rfl
           case q1_7 => exact rfl
           intro u2 w7 hown2 hgrow2 hnil2 hat2
           have HM7 := Lib.hid (HM.out.app hown2 hgrow2)
           obtain ⟨g2, cap2, rfl⟩ := ownsRow_succ hown2
           clear hown2 hgrow2 hnil2 hat2))
      go_ret
      have e : N + 1 = (wdcs c s).length := by rw [HE.out, List.length_append, ← HN.out]; rfl
      rw [e] at HM7 ⊢
      rw [HE.out] at HM7 ⊢
      exact ⟨g2, cap2, rfl, str_of_own HM7.out.1, HM7.out.2⟩
    have T0 : decide ((i : Int) < (s.size : Int)) = true := decide_eq_true (by omega)
    have T0' : decide (i < s.size) = true := decide_eq_true hk
    obtain ⟨i', hi'⟩ : ∃ z, z = i + 1 := ⟨_, rfl⟩
    have x0 : IntKind.i64.wrap ((i : Int) + 1) = (i' : Int) := by rw [IntKind.wrap_i64]; omega
    have r0 : (0 : Int) ≤ (i : Int) := by omega
    have r1 : (i : Int) < (s.size : Int) := by omega
    have HMS : Hid (s.size + 1 - (intOf (Value.int .i64 (i' : Int))).toNat < s.size + 1 - (intOf (Value.int .i64 (i : Int))).toNat) := by show _ < _; simp [intOf]; omega
    obtain ⟨d, hd⟩ : ∃ d : Nat, (s[i]'hk).toNat = d := ⟨_, rfl⟩
    have hil : i < s.data.toList.length := by omega
    have hgi : s.data.toList[i] = s[i]'hk := rfl
    by_cases hdc : d = cn
    · have u1 : ((d : Int) == (cn : Int)) = true := by simp [hdc]
      have u2 : decide (d = cn) = true := decide_eq_true hdc
      have HA' := Lib.hid (HA.out.cut hil (by
        rw [hgi]
        apply UInt8.toNat_inj.1
        rw [hd, hdc, HCN.out]))
      rw [← hi'] at HA'
      have r2 : (0 : Int) ≤ (f : Int) := by omega
      have r3 : (f : Int) ≤ (i : Int) := by omega
      have r4 : f ≤ i := by omega
      have r5 : i ≤ s.size := by omega
      have r6 : (i : Int) ≤ (s.size : Int) := by omega
      have N5 : Hid (N ≤ 5000) := by show _ ≤ _; omega
      clear h1 h2 h3 h4 h5 h6 hi' hgi hil
      subst hdc
      go_wp2_with (first
        | (at_builtin; refine wpList_append_own_at _ ?q2_1 (.tmp 19) (.tmp 24) 71 ?q2_2 (w.heap.size) 9 i0 (.string ByteArray.empty) 1 16 Tryz.underlying71 HI0.out HZ0.out HZ1.out HZ2.out ?q2_3 ?q2_4 (.slice A0 N cap0) N (sc R) ?q2_5 (HM.out.1.alloc _) ⟨wr.heap.size, 0, none⟩ 1 1 [.string (s.extract f i)] ?q2_7 (rfl) (World.news_of_block (cs := #[.string (s.extract f i)]) (t := 9) (fr := (0, 0)) (heap_alloc_new _ _)) (by simp [Value.oneCell']) (h63_le (by have := N5.out; omega)) (h16_le (by have := N5.out; omega)) (base_alloc1 HM.out.2.size _) ?q2_14
           case q2_1 => exact rfl
           case q2_2 => exact rfl
           case q2_3 => exact rfl
           case q2_4 => decide
           case q2_5 => exact rfl
           case q2_7 => exact rfl
           intro u2 w7 hown2 hgrow2 hnil2 hat2
           have HM7 := Lib.hid (HM.out.app hown2 hgrow2)
           clear hown2 hgrow2 hnil2 hat2))
      go_roundw
      case rel => exact ⟨i', i', N + 1, R ++ [s.extract f i], rfl, rfl, by show _ = _; rw [List.length_append, ← HN.out]; rfl, HA', HM7⟩
      case measure => exact HMS.out
    · have u1 : ((d : Int) == (cn : Int)) = false := by simp <;> omega
      have u2 : decide (d = cn) = false := decide_eq_false hdc
      have HA' := Lib.hid (HA.out.other hil (by
        rw [hgi]
        intro e
        apply hdc
        rw [← hd, e, HCN.out]))
      rw [← hi'] at HA'
      clear h1 h2 h3 h4 h5 h6 hi' hgi hil hdc
      go_wp2_with fail
      go_roundw
      case rel => exact ⟨f, i', N, R, rfl, rfl, HN, HA', HM⟩
      case measure => exact HMS.out
end Go.Proofs.YtigocjhmgmhocaaGreatDoor

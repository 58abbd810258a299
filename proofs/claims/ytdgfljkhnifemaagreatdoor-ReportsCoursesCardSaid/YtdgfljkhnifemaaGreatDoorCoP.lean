/- Lines of a section: their first word, the number at their end; what a plot's column bears. Plain but for three calls. -/
import Derived.Test.YtdgfljkhnifemaaGreatDoorMgE
import Derived.Test.YtdgfljkhnifemaaGreatDoorSct
import Derived.Test.YtdgfljkhnifemaaGreatDoorMgC
import Derived.Test.YtdgfljkhnifemaaGreatDoorMat
import Derived.Test.YtdgfljkhnifemaaGreatDoorName
namespace Go.Proofs.YtdgfljkhnifemaaGreatDoor
open Go.RowKit
set_option linter.unusedVariables false
set_option linter.unusedSimpArgs false

theorem name_nosp {l : List UInt8} (h : nameB l = true) : NoSp l := by
  unfold nameB at h
  simp only [Bool.and_eq_true, decide_eq_true_eq] at h
  have hw := h.2
  unfold wlen at hw
  have e := (List.takeWhile_prefix (l := l) (fun c => wchB (c.toNat : Int))).eq_of_length hw
  intro c hc hc2
  subst hc2
  have h2 := List.all_takeWhile (p := fun c : UInt8 => wchB (c.toNat : Int)) (l := l)
  rw [e] at h2
  have h3 := List.all_eq_true.1 h2 32 hc
  revert h3
  decide
theorem jn_c2 (a b : ByteArray) (r : List ByteArray) : jn (a :: b :: r) = a.data.toList ++ 32 :: jn (b :: r) := by
  unfold jn
  simp [Lib.join_cons, Lib.joinTail]
theorem bsx_toList (l : List UInt8) : (bsx l).data.toList = l := by simp [bsx]
theorem nlin_toList (D : Nds) (Lo Hi : Nat → Int) (k : Nat) : (nlin D Lo Hi k).data.toList = (D.Nm k).data.toList ++ 32 :: jn [wGr, numB (D.Gd k), wIv, numB (D.Iv k), wLv, numB (Lo k), wTo, numB (Hi k)] := by
  unfold nlin
  rw [bsx_toList, jn_c2]
theorem klin_toList (K : Lks) (C : Scs) (c k : Nat) : ∃ r, (klin K C c k).data.toList = (K.Nm k).data.toList ++ 32 :: r := by
  unfold klin
  by_cases h : K.Kd k = 1
  · rw [if_pos h]
    unfold plin
    exact ⟨_, by rw [bsx_toList, jn_c2]⟩
  · rw [if_neg h]
    exact ⟨_, by rw [bsx_toList, jn_c2]⟩
theorem index_at (a r : List UInt8) (h : NoSp a) : Lib.indexByte (a ++ 32 :: r) 32 = (a.length : Int) := by
  rw [index_word a (32 :: r) h, if_neg (by simp)]
  exact if_pos rfl
theorem ext_at (a r : List UInt8) : (⟨(a ++ 32 :: r).toArray⟩ : ByteArray).extract 0 a.length = ⟨a.toArray⟩ := by
  apply ByteArray.ext
  rw [ByteArray.data_extract]
  apply Array.ext'
  rw [Array.toList_extract]
  simp only [List.extract_eq_take_drop, List.drop_zero, Nat.sub_zero, List.toList_toArray]
  exact List.take_left' rfl
set_option maxHeartbeats 1000000 in
theorem tcutL0 (a s : ByteArray) (r : List UInt8) (hs : s.data.toList = a.data.toList ++ 32 :: r) (hn : NoSp a.data.toList) (hz : a.size ≤ 1000) : ∃ b, ∀ w, Calls Tryz.prog 43 #[.string s, .string ⟨#[32]⟩] w fun e w' => e = .returned (.tuple #[.string a, .string b, .bool true]) ∧ Below w.heap.size w w' := by
  have S := fun w => Tryz.stringslite_Index_one s 32 w
  have hsz : s.size = a.size + 1 + r.length := by
    have : s.size = s.data.toList.length := rfl
    rw [this, hs]
    have h2 : a.size = a.data.toList.length := rfl
    rw [List.length_append, List.length_cons, h2]; omega
  have ei : Lib.indexByte s.data.toList 32 = (a.size : Int) := by rw [hs]; exact index_at _ _ hn
  have ea : s.extract 0 a.size = a := by
    have e1 : s = ⟨(a.data.toList ++ 32 :: r).toArray⟩ := by
      apply ByteArray.ext
      apply Array.toList_inj.1
      rw [hs]
    rw [e1]
    exact (ext_at a.data.toList r).trans (by apply ByteArray.ext; simp)
  obtain ⟨k, hk⟩ : ∃ z, z = a.size := ⟨_, rfl⟩
  rw [← hk] at ei ea
  obtain ⟨kk, hkk⟩ : ∃ z, z = k + 1 := ⟨_, rfl⟩
  refine ⟨s.extract kk s.size, fun w => ?_⟩
  rw [← ea, ea]
  rw [ei] at S
  have S := Lib.hid S
  have t1 : decide ((0 : Int) ≤ (k : Int)) = true := decide_eq_true (by omega)
  have t2 : IntKind.i64.wrap ((k : Int) + 1) = (kk : Int) := by rw [IntKind.wrap_i64]; omega
  have t3 : kk ≤ s.size := by omega
  have t4 : (kk : Int) ≤ (s.size : Int) := by omega
  have t5 : k ≤ s.size := by omega
  have t6 : (k : Int) ≤ (s.size : Int) := by omega
  have HEA := Lib.hid ea
  clear ei hk hkk hs hn hsz ea hz
  go_enter Tryz.func43, Tryz.ntmps43
  go_wp2_with (first | (go_at_call 71; (with_reducible refine (S.out _).mono ?_); rintro e w' ⟨rfl, rfl⟩))
  go_quiet (fail)
  go_wp2_with fail
  go_ret3
  exact ⟨by simp [HEA.out], by (repeat' (first | assumption | exact Below.refl _ _ | exact Below.size (by assumption) | (refine Below.setCell ?_ ?_ _) | (refine Below.alloc ?_ ?_ _) | (refine Below.drew ?_) | (refine below_drewN ?_ _) | (refine Below.trans ?_ (Below.mono ‹Below _ _ _› ?_)) | omega | (simp; done) | (simp; omega) | (simp at *; omega)))⟩
theorem tcutL (a s : ByteArray) (r : List UInt8) (hs : s.data.toList = a.data.toList ++ 32 :: r) (hn : NoSp a.data.toList) (hz : a.size ≤ 1000) : ∃ b, ∀ w, Calls Tryz.prog 14 #[.string s, .string ⟨#[32]⟩] w fun e w' => e = .returned (.tuple #[.string a, .string b, .bool true]) ∧ Below w.heap.size w w' := by
  obtain ⟨b, hb⟩ := tcutL0 a s r hs hn hz
  refine ⟨b, fun w => ?_⟩
  have S := Lib.hid hb
  clear hb hs hn hz
  go_enter Tryz.func14, Tryz.ntmps14
  go_wp2_with (first | (go_at_call 43; (with_reducible refine (S.out _).mono ?_); rintro e w1 ⟨rfl, hb1⟩; obtain ⟨hc1, hf1⟩ := bcell hb1; have hz1 := hb1.size; (try simp at hz1); (try simp only [heap_drew, World.heap_drewN] at hz1); (try simp only [heap_drew, World.heap_drewN] at hc1); (try simp only [heap_drew, World.heap_drewN] at hf1); (try have hs1 := Nat.lt_of_succ_le hz1); (try have hs2 := Nat.lt_of_succ_lt hs1); (try have y0 : w.heap.size < w1.heap.size := by omega); (try have y1 : w.heap.size + 1 < w1.heap.size := by omega); (try have y2 : w.heap.size + 2 < w1.heap.size := by omega)))
  go_ret3
  refine ⟨rfl, ?_⟩
  (repeat' (first | assumption | exact Below.refl _ _ | exact Below.size (by assumption) | (refine Below.setCell ?_ ?_ _) | (refine Below.alloc ?_ ?_ _) | (refine Below.drew ?_) | (refine below_drewN ?_ _) | (refine Below.trans ?_ (Below.mono ‹Below _ _ _› ?_)) | omega | (simp; done) | (simp; omega) | (simp at *; omega)))
/-- What stands ahead of the number of a line. -/
def nlab (D : Nds) (Lo : Nat → Int) (k : Nat) : ByteArray := bsx (jn [D.Nm k, wGr, numB (D.Gd k), wIv, numB (D.Iv k), wLv, numB (Lo k), wTo])
theorem numB_toList (z : Int) : (numB z).data.toList = Lib.itoa z := by simp [numB]
theorem nlin_lab (D : Nds) (Lo Hi : Nat → Int) (k : Nat) : (nlin D Lo Hi k).data.toList = (nlab D Lo k).data.toList ++ 32 :: Lib.itoa (Hi k) := by
  unfold nlin nlab
  rw [bsx_toList, bsx_toList]
  have h := jn_snoc (R := [D.Nm k, wGr, numB (D.Gd k), wIv, numB (D.Iv k), wLv, numB (Lo k), wTo]) (by simp) (numB (Hi k))
  rw [numB_toList] at h
  exact h
theorem nlab_to (D : Nds) (Lo : Nat → Int) (k : Nat) : (nlab D Lo k).data.toList = jn [D.Nm k, wGr, numB (D.Gd k), wIv, numB (D.Iv k), wLv, numB (Lo k)] ++ [32, 116, 111] := by
  unfold nlab
  rw [bsx_toList]
  exact jn_snoc (R := [D.Nm k, wGr, numB (D.Gd k), wIv, numB (D.Iv k), wLv, numB (Lo k)]) (by simp) wTo
theorem itoa30 {z : Int} (h1 : -1000000000000000000 < z) (h2 : z < 1000000000000000000) : (Lib.itoa z).length ≤ 30 := by
  have hd := dec_size (u := z.natAbs) (by omega)
  have e0 : (⟨(Lib.decDigits z.natAbs).toArray⟩ : ByteArray).size = (Lib.decDigits z.natAbs).length := rfl
  by_cases hz : z < 0
  · rw [itoa_neg' hz, List.length_cons]; omega
  · rw [itoa_pos' hz]
    have : z.toNat = z.natAbs := by omega
    rw [this]; omega
theorem nlab_size (D : Nds) (Lo : Nat → Int) (k : Nat) (hn : (D.Nm k).size ≤ 60) (hg : -4194304 ≤ D.Gd k ∧ D.Gd k ≤ 4194304) (hi : -4194304 ≤ D.Iv k ∧ D.Iv k ≤ 4194304) (hl : -72057594037927936 ≤ Lo k ∧ Lo k ≤ 72057594037927936) : (nlab D Lo k).size ≤ 1000 := by
  have l1 := itoa30 (z := D.Gd k) (by omega) (by omega)
  have l2 := itoa30 (z := D.Iv k) (by omega) (by omega)
  have l3 := itoa30 (z := Lo k) (by omega) (by omega)
  have e1 : (nlab D Lo k).size = (nlab D Lo k).data.toList.length := rfl
  have e2 : (D.Nm k).data.toList.length = (D.Nm k).size := rfl
  rw [e1, nlab_to]
  rw [jn_c2, jn_c2, jn_c2, jn_c2, jn_c2, jn_c2, jn_one]
  simp only [List.length_append, List.length_cons, numB_toList, List.length_nil, e2]
  have g1 : wGr.data.toList.length = 6 := rfl
  have g2 : wIv.data.toList.length = 6 := rfl
  have g3 : wLv.data.toList.length = 5 := rfl
  omega
theorem nlin_size (D : Nds) (Lo Hi : Nat → Int) (k : Nat) (hn : (D.Nm k).size ≤ 60) (hg : -4194304 ≤ D.Gd k ∧ D.Gd k ≤ 4194304) (hi : -4194304 ≤ D.Iv k ∧ D.Iv k ≤ 4194304) (hl : -72057594037927936 ≤ Lo k ∧ Lo k ≤ 72057594037927936) (hh : -72057594037927936 ≤ Hi k ∧ Hi k ≤ 72057594037927936) : (nlin D Lo Hi k).size ≤ 1000 := by
  have l1 := itoa30 (z := D.Gd k) (by omega) (by omega)
  have l2 := itoa30 (z := D.Iv k) (by omega) (by omega)
  have l3 := itoa30 (z := Lo k) (by omega) (by omega)
  have l4 := itoa30 (z := Hi k) (by omega) (by omega)
  have e1 : (nlin D Lo Hi k).size = (nlin D Lo Hi k).data.toList.length := rfl
  have e2 : (D.Nm k).data.toList.length = (D.Nm k).size := rfl
  rw [e1, nlin_lab, nlab_to]
  rw [jn_c2, jn_c2, jn_c2, jn_c2, jn_c2, jn_c2, jn_one]
  simp only [List.length_append, List.length_cons, numB_toList, List.length_nil, e2]
  have g1 : wGr.data.toList.length = 6 := rfl
  have g2 : wIv.data.toList.length = 6 := rfl
  have g3 : wLv.data.toList.length = 5 := rfl
  omega
theorem treadL (D : Nds) (Lo Hi : Nat → Int) (k : Nat) (hn : 1 ≤ (D.Nm k).size ∧ (D.Nm k).size ≤ 60) (hg : -4194304 ≤ D.Gd k ∧ D.Gd k ≤ 4194304) (hi : -4194304 ≤ D.Iv k ∧ D.Iv k ≤ 4194304) (hl : -72057594037927936 ≤ Lo k ∧ Lo k ≤ 72057594037927936) (hh : -72057594037927936 ≤ Hi k ∧ Hi k ≤ 72057594037927936) (w : World) (hE : Env5 w) :
    Calls Tryz.prog 16 #[.string (nlin D Lo Hi k)] w fun e' w' => e' = .returned (.tuple #[.string (nlab D Lo k), .int .i64 (Hi k), .int .i64 0]) ∧ Below w.heap.size w w' := by
  have l1 := itoa30 (z := D.Gd k) (by omega) (by omega)
  have l2 := itoa30 (z := D.Iv k) (by omega) (by omega)
  have l3 := itoa30 (z := Lo k) (by omega) (by omega)
  have l4 := itoa30 (z := Hi k) (by omega) (by omega)
  have e1 : (nlab D Lo k).size = (nlab D Lo k).data.toList.length := rfl
  have e2 : (D.Nm k).data.toList.length = (D.Nm k).size := rfl
  have hsz : 1 ≤ (nlab D Lo k).size ∧ (nlab D Lo k).size ≤ 200 := by
    rw [e1, nlab_to]
    rw [jn_c2, jn_c2, jn_c2, jn_c2, jn_c2, jn_c2, jn_one]
    simp only [List.length_append, List.length_cons, numB_toList, List.length_nil, e2]
    have g1 : wGr.data.toList.length = 6 := rfl
    have g2 : wIv.data.toList.length = 6 := rfl
    have g3 : wLv.data.toList.length = 5 := rfl
    omega
  have hs : (nlin D Lo Hi k).size ≤ 500 := by
    have e : (nlin D Lo Hi k).size = (nlin D Lo Hi k).data.toList.length := rfl
    rw [e, nlin_lab, List.length_append, List.length_cons, ← e1]
    omega
  have hR : RdIs (nlin D Lo Hi k) (nlab D Lo k) (Hi k) 0 := rd_join (by omega) (by omega) hsz.1 hs (nlin_lab D Lo Hi k)
  obtain ⟨l, n, e, hR', hc⟩ := tread (nlin D Lo Hi k) (by omega)
  obtain ⟨rfl, rfl, rfl⟩ := hR'.uniq hR
  exact hc w hE
theorem tsufTo (s : ByteArray) (l : List UInt8) (hs : s.data.toList = l ++ [32, 116, 111]) (hz : s.size ≤ 1000) (w : World) : Calls Tryz.prog 17 #[.string s, .string ⟨#[32, 116, 111]⟩] w fun e w' => e = .returned (.bool true) ∧ w = w' := by
  refine (Tryz.strings_HasSuffix s _ w (by omega)).mono ?_
  rintro e w' ⟨he, hw⟩
  refine ⟨?_, hw.symm⟩
  rw [he]
  have : Lib.hasSuffix s.data.toList [32, 116, 111] = true := by
    unfold Lib.hasSuffix
    rw [hs]
    exact List.isSuffixOf_iff_suffix.2 (List.suffix_append _ _)
  exact congrArg (fun b => Ending.returned (.bool b)) this
/-- The lines of the course, one by one. -/
theorem sgo_at (D : Nds) (n : Nat) (K : Lks) (m : Nat) (C : Scs) (c : Nat) (N : Nat → ByteArray) (Lo Hi : Nat → Int) : ∀ i j, j < i → (sgo D n K m C c N Lo Hi i)[2 * j]? = some (nlin D Lo Hi (ndI D n N j)) ∧ (sgo D n K m C c N Lo Hi i)[2 * j + 1]? = some (klin K C c (lkI K m N j))
  | 0, _, h => absurd h (Nat.not_lt_zero _)
  | i + 1, j, h => by
    have hl := sgo_len D n K m C c N Lo Hi i
    show (sgo D n K m C c N Lo Hi i ++ _)[_]? = _ ∧ (sgo D n K m C c N Lo Hi i ++ _)[_]? = _
    by_cases e : j < i
    · rw [List.getElem?_append_left (by omega), List.getElem?_append_left (by omega)]
      exact sgo_at D n K m C c N Lo Hi i j e
    · have e : j = i := by omega
      subst e
      rw [List.getElem?_append_right (by omega), List.getElem?_append_right (by omega), hl]
      simp
theorem sall_len {D : Nds} {n : Nat} {K : Lks} {m : Nat} {C : Scs} {c : Nat} {N : Nat → ByteArray} {Lo Hi : Nat → Int} {p : Nat} (h : 1 ≤ p) : (sall D n K m C c N Lo Hi p).length = 2 * p - 1 := by
  unfold sall
  rw [List.length_append, sgo_len]
  simp
  omega
theorem sall_even {D : Nds} {n : Nat} {K : Lks} {m : Nat} {C : Scs} {c : Nat} {N : Nat → ByteArray} {Lo Hi : Nat → Int} {p j : Nat} (h : j < p) : (sall D n K m C c N Lo Hi p).getD (2 * j) ByteArray.empty = nlin D Lo Hi (ndI D n N j) := by
  have hl := sgo_len D n K m C c N Lo Hi (p - 1)
  unfold sall
  rw [List.getD_eq_getElem?_getD]
  by_cases e : j < p - 1
  · rw [List.getElem?_append_left (by omega), (sgo_at D n K m C c N Lo Hi (p - 1) j e).1]
    rfl
  · have e : j = p - 1 := by omega
    rw [List.getElem?_append_right (by omega), hl, e, Nat.sub_self]
    rfl
theorem sall_odd {D : Nds} {n : Nat} {K : Lks} {m : Nat} {C : Scs} {c : Nat} {N : Nat → ByteArray} {Lo Hi : Nat → Int} {p j : Nat} (h : j + 1 < p) : (sall D n K m C c N Lo Hi p).getD (2 * j + 1) ByteArray.empty = klin K C c (lkI K m N j) := by
  have hl := sgo_len D n K m C c N Lo Hi (p - 1)
  unfold sall
  rw [List.getD_eq_getElem?_getD, List.getElem?_append_left (by omega), (sgo_at D n K m C c N Lo Hi (p - 1) j (by omega)).2]
  rfl
/-- How a column reads so far. -/
def gnd (ri rg : Nat) (k : Nat) : Int := if rg < k ∧ rg ≠ ri then (rg : Int) else -1
def inv (ri : Nat) (k : Nat) : Int := if ri < k then (ri : Int) else -1
theorem gnd_same {ri rg k : Nat} (h : k ≠ rg ∨ rg = ri) : gnd ri rg (k + 1) = gnd ri rg k := by
  unfold gnd
  by_cases g : rg < k ∧ rg ≠ ri
  · rw [if_pos g, if_pos (by omega)]
  · rw [if_neg g, if_neg (by omega)]
theorem gnd_new {ri rg k : Nat} (h : k = rg) (h2 : k ≠ ri) : gnd ri rg (k + 1) = (k : Int) := by
  unfold gnd
  rw [if_pos (by omega), h]
theorem inv_same {ri k : Nat} (h : k ≠ ri) : inv ri (k + 1) = inv ri k := by
  unfold inv
  by_cases g : ri < k
  · rw [if_pos g, if_pos (by omega)]
  · rw [if_neg g, if_neg (by omega)]
theorem inv_new {ri k : Nat} (h : k = ri) : inv ri (k + 1) = (k : Int) := by
  unfold inv
  rw [if_pos (by omega), h]
end Go.Proofs.YtdgfljkhnifemaaGreatDoor

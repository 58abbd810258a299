/- The lines of reports on nodes and overflows are read; what they say holds. Plain but for one call. -/
import Derived.Test.YtfgakaielfekoaaGreatDoorOvp
import Derived.Test.YtfgakaielfekoaaGreatDoorMgB
namespace Go.Proofs.YtfgakaielfekoaaGreatDoor
open Go.RowKit
set_option linter.unusedVariables false
set_option linter.unusedSimpArgs false

theorem ln3_toList (nm wd : ByteArray) (z : Int) : (ln3 nm wd z).data.toList = nm.data.toList ++ 32 :: (wd.data.toList ++ 32 :: Lib.itoa z) := by
  have e : jn [nm, wd, numB z] = nm.data.toList ++ 32 :: (wd.data.toList ++ 32 :: (numB z).data.toList) := by
    have a := jn_snoc (R := [nm]) (by simp) wd
    rw [jn_one] at a
    have b := jn_snoc (R := [nm, wd]) (by simp) (numB z)
    rw [show ([nm, wd] : List ByteArray) = [nm] ++ [wd] from rfl, a] at b
    simpa using b
  show (bsx (jn [nm, wd, numB z])).data.toList = _
  rw [e]
  simp [bsx, numB]
/-- The number of a line is read. -/
theorem tread3 (nm wd lit : ByteArray) (z : Int) (h1 : -1000000000000000000 < z) (h2 : z < 1000000000000000000) (hn : nm.size ≤ 60) (hw : 1 ≤ wd.size ∧ wd.size ≤ 10) (hl : lit.data.toList = 32 :: wd.data.toList) (w : World) (hE : Env5 w) :
    Calls Tryz.prog 29 #[.string (ln3 nm wd z)] w fun e' w' => e' = .returned (.tuple #[.string (nm ++ lit), .int .i64 z, .int .i64 0]) ∧ Below w.heap.size w w' := by
  have hd := dec_size (u := z.natAbs) (by omega)
  have e0 : (⟨(Lib.decDigits z.natAbs).toArray⟩ : ByteArray).size = (Lib.decDigits z.natAbs).length := rfl
  have hz : (Lib.itoa z).length ≤ 30 := by
    by_cases hz : z < 0
    · rw [itoa_neg' hz, List.length_cons]; omega
    · rw [itoa_pos' hz]
      have : z.toNat = z.natAbs := by omega
      rw [this]; omega
  have hs : (ln3 nm wd z).size ≤ 500 := by
    have e : (ln3 nm wd z).size = (ln3 nm wd z).data.toList.length := rfl
    have e2 : nm.data.toList.length = nm.size := rfl
    have e3 : wd.data.toList.length = wd.size := rfl
    rw [e, ln3_toList]
    simp only [List.length_append, List.length_cons, e2, e3]
    omega
  have hR : RdIs (ln3 nm wd z) (nm ++ lit) z 0 := by
    refine rd_join h1 h2 ?_ hs ?_
    · rw [ByteArray.size_append]
      have : lit.size = (32 :: wd.data.toList).length := by rw [← hl]; rfl
      rw [this, List.length_cons]
      omega
    · rw [ln3_toList, ByteArray.data_append]
      simp [hl]
  obtain ⟨l, n, e, hR', hc⟩ := tread (ln3 nm wd z) (by omega)
  obtain ⟨rfl, rfl, rfl⟩ := hR'.uniq hR
  exact hc w hE
/-- What a line of Nodes says, of all states. -/
theorem lv_ge {D : Nds} {i : Nat} (h : ndP D i) {S : Sts} {s : Nat} (hv : ∀ k, k < s → 0 ≤ S.V k i) {k : Nat} (hk : k < s) : lvF D i (S.V k i) ≤ lvF D i (mxV S s i) :=
  lv_mono h.lv.2.1 (hv k hk) (mx_ge (fun k => S.V k i) hk)
theorem mx_hit {f : Nat → Int} {s : Nat} (h1 : 1 ≤ s) (hf : ∀ k, k < s → 0 ≤ f k) : ∃ k, k < s ∧ f k = mx f s := by
  rcases mx_is f s with e | ⟨k, hk, e⟩
  · refine ⟨0, h1, ?_⟩
    have a := mx_ge f (s := s) (k := 0) h1
    have b := hf 0 h1
    omega
  · exact ⟨k, hk, e.symm⟩
/-- Whether one of the first numbers is a given one. -/
def hitB (f : Nat → Int) (z : Int) : Nat → Bool
  | 0 => false
  | k + 1 => hitB f z k || (f k == z)
theorem hitB_at {f : Nat → Int} {z : Int} : ∀ {s k : Nat}, k < s → f k = z → hitB f z s = true
  | 0, _, h, _ => absurd h (Nat.not_lt_zero _)
  | s + 1, k, h, e => by
    unfold hitB
    by_cases g : k = s
    · subst g; simp [e]
    · rw [hitB_at (s := s) (k := k) (by omega) e]; rfl
theorem nout_at (D : Nds) (S : Sts) (s : Nat) : ∀ {n i : Nat}, i < n → (nout D S s n).getD (2 * i) ByteArray.empty = ln3 (D.Nm i) wLv (lvF D i (mxV S s i)) ∧ (nout D S s n).getD (2 * i + 1) ByteArray.empty = ln3 (D.Nm i) wPd (mxP S s i)
  | 0, _, h => absurd h (Nat.not_lt_zero _)
  | n + 1, i, h => by
    have hl := nout_len D S s n
    show (nout D S s n ++ _).getD (2 * i) _ = _ ∧ (nout D S s n ++ _).getD (2 * i + 1) _ = _
    by_cases g : i = n
    · subst g
      constructor
      · rw [List.getD_eq_getElem?_getD, List.getElem?_append_right (by omega), hl, Nat.sub_self]; rfl
      · rw [List.getD_eq_getElem?_getD, List.getElem?_append_right (by omega), hl, Nat.add_sub_cancel_left]; rfl
    · have ih := nout_at D S s (n := n) (i := i) (by omega)
      constructor
      · rw [List.getD_eq_getElem?_getD, List.getElem?_append_left (by omega), ← List.getD_eq_getElem?_getD]; exact ih.1
      · rw [List.getD_eq_getElem?_getD, List.getElem?_append_left (by omega), ← List.getD_eq_getElem?_getD]; exact ih.2
theorem oout_le (D : Nds) (S : Sts) (s : Nat) (sec : Int) : ∀ {n i : Nat}, i ≤ n → ∃ T, oout D S s sec n = oout D S s sec i ++ T
  | 0, i, h => ⟨[], by
    have : i = 0 := by omega
    subst this; simp⟩
  | n + 1, i, h => by
    by_cases g : i = n + 1
    · subst g; exact ⟨[], by simp⟩
    · obtain ⟨T, e⟩ := oout_le D S s sec (n := n) (i := i) (by omega)
      exact ⟨T ++ olin D S s sec n, by rw [oout_one, e, List.append_assoc]⟩
/-- The lines of a node, among all lines, where it has some. -/
theorem oout_at {D : Nds} {S : Sts} {s : Nat} {sec : Int} {n i : Nat} (h : i < n) (he : oev S s i ≠ []) :
    (oout D S s sec i).length + 3 = (oout D S s sec (i + 1)).length ∧ (oout D S s sec (i + 1)).length ≤ (oout D S s sec n).length ∧
    (oout D S s sec n).getD ((oout D S s sec i).length + 0) ByteArray.empty = ln3 (D.Nm i) wEvs ((oev S s i).length : Int) ∧
    (oout D S s sec n).getD ((oout D S s sec i).length + 1) ByteArray.empty = ln3 (D.Nm i) wVol (psum (evsOf (oev S s i)).Tot (oev S s i).length) ∧
    (oout D S s sec n).getD ((oout D S s sec i).length + 2) ByteArray.empty = ln3 (D.Nm i) wLon (lonS (oev S s i) * sec) := by
  obtain ⟨T, e⟩ := oout_le D S s sec (n := n) (i := i + 1) h
  have e2 : oout D S s sec (i + 1) = oout D S s sec i ++ [ln3 (D.Nm i) wEvs ((oev S s i).length : Int), ln3 (D.Nm i) wVol (psum (evsOf (oev S s i)).Tot (oev S s i).length), ln3 (D.Nm i) wLon (lonS (oev S s i) * sec)] := by rw [oout_one, olin_some he]
  have key : ∀ j, (oout D S s sec n).getD ((oout D S s sec i).length + j) ByteArray.empty = ([ln3 (D.Nm i) wEvs ((oev S s i).length : Int), ln3 (D.Nm i) wVol (psum (evsOf (oev S s i)).Tot (oev S s i).length), ln3 (D.Nm i) wLon (lonS (oev S s i) * sec)] ++ T).getD j ByteArray.empty := fun j => by
    rw [e, e2, List.append_assoc, List.getD_eq_getElem?_getD, List.getElem?_append_right (by omega), Nat.add_sub_cancel_left, ← List.getD_eq_getElem?_getD]
  refine ⟨by rw [e2, List.length_append]; rfl, by rw [e, List.length_append]; omega, ?_, ?_, ?_⟩
  · rw [key 0]; rfl
  · rw [key 1]; rfl
  · rw [key 2]; rfl
theorem oout_same {D : Nds} {S : Sts} {s : Nat} {sec : Int} {i : Nat} (he : oev S s i = []) : (oout D S s sec (i + 1)).length = (oout D S s sec i).length := by rw [oout_one, olin_nil he, List.append_nil]
theorem tot_small {v : Nat → Int} {s : Nat} (h20 : s ≤ 20) (hv : ∀ k, k < s → 0 ≤ v k ∧ v k ≤ 1125899906842624) : psum (evsOf (runs v s)).Tot (runs v s).length ≤ 22517998136852480 := by
  have hg := runs_good h20 hv
  rw [psum_sumS]
  have hs := hg.sum
  have hb : (1125899906842624 : Int) * (s : Int) ≤ 1125899906842624 * 20 := Int.mul_le_mul_of_nonneg_left (by omega) (by omega)
  omega
end Go.Proofs.YtfgakaielfekoaaGreatDoor

/- The package's report on permits. -/
import Derived.Test.YtfldmnikdejekaaGreatDoorLine
import Derived.Test.YtfldmnikdejekaaGreatDoorPmtB
import Derived.Test.YtfldmnikdejekaaGreatDoorAwk
namespace Go.Proofs.YtfldmnikdejekaaGreatDoor
open Go.RowKit Go.Maps
set_option linter.unusedVariables false
set_option linter.unusedSimpArgs false

theorem h63_k {n : Nat} (h : n ≤ 2000) : n + 1 ≤ maxLen := by simp only [maxLen]; omega
theorem hby_k {n : Nat} (h : n ≤ 2000) : (n + 1) * 16 ≤ 140737488355328 := by omega
theorem Env5.env {w : World} (h : Env5 w) : Env w := h.1
/-- What a report on permits leaves. -/
def RepPost (w : World) (P : Pms) (L : Evl) (from_ sec : Int) (n m : Nat) (e : Ending) (w' : World) : Prop := ∃ (R : List ByteArray) (er : Int) (A : Option Addr) (N cap : Nat), RepIs P L from_ sec n m R er ∧ e = .returned (.tuple #[.slice A N cap, .int .i64 er]) ∧ N = R.length ∧ N ≤ cap ∧ StrIn w' A N (fun k => R.getD k ByteArray.empty) ∧ Below w.heap.size w w'
theorem rep_nil {w w' : World} {P : Pms} {L : Evl} {from_ sec er : Int} {n m : Nat} (h : RepIs P L from_ sec n m [] er) (hb : Below w.heap.size w w') : RepPost w P L from_ sec n m (.returned (.tuple #[.slice none 0 0, .int .i64 er])) w' :=
  ⟨[], er, none, 0, 0, h, rfl, rfl, Nat.le_refl _, ⟨by omega, .inl rfl⟩, hb⟩
theorem RMem5.rep {w w1 wr : World} {P : Pms} {L : Evl} {from_ sec : Int} {n m : Nat} {u : Value} {R : List ByteArray} {N : Nat} (h : RMem5 w1 wr u N R) (hw : Below w.heap.size w w1) (hN : N = R.length) (hb : N ≤ 2000) (hR : RepIs P L from_ sec n m R 0) : RepPost w P L from_ sec n m (.returned (.tuple #[u, .int .i64 0])) wr := by
  rcases h.1.2 with ⟨hv, h0⟩ | ⟨g, cap, cur, hv, _, _, hnc, _⟩
  · exact ⟨R, 0, none, N, 0, hR, by rw [hv, h0], hN, by omega, ⟨by omega, .inl h0⟩, below_step hw h.2⟩
  · have hown := h.1
    rw [hv, hN] at hown
    exact ⟨R, 0, some ⟨g, 0, none⟩, N, cap, hR, by rw [hv], hN, hnc, ⟨by omega, .inr ⟨g, 0, rfl, by rw [hN]; exact str_of_own hown⟩⟩, below_step hw h.2⟩
/-- The words of the two lines. -/
def itK (nm nd : ByteArray) (k : Nat) : Itm := .s (if k = 0 then nm else if k = 1 then nd else wKp)
def itF (nm nd : ByteArray) (p : Int × Int) (k : Nat) : Itm := .s (if k = 0 then nm else if k = 1 then nd else if k = 2 then wordB p.1 else fnm p.2)
theorem itl_K (nm nd : ByteArray) : (⟨(jn (itl (itK nm nd) 3)).toArray⟩ : ByteArray) = kline nm nd := rfl
theorem itl_F (nm nd : ByteArray) (p : Int × Int) : (⟨(jn (itl (itF nm nd p) 4)).toArray⟩ : ByteArray) = fline nm nd p := rfl
theorem itK_at {w : World} {g : Nat} {nm nd : ByteArray} {t : TypeId} (h : Blk w g t #[.iface 9 (.string nm), .iface 9 (.string nd), .iface 9 (.string wKp)]) : ItAt w g 0 3 (itK nm nd) :=
  ⟨h.lt, fun k hk => by
    have : k = 0 ∨ k = 1 ∨ k = 2 := by omega
    rcases this with rfl | rfl | rfl
    · exact h.cell 0
    · exact h.cell 1
    · exact h.cell 2⟩
theorem itF_at {w : World} {g : Nat} {nm nd : ByteArray} {p : Int × Int} {x y : ByteArray} {t : TypeId} (hx : x = wordB p.1) (hy : y = fnm p.2) (h : Blk w g t #[.iface 9 (.string nm), .iface 9 (.string nd), .iface 9 (.string x), .iface 9 (.string y)]) : ItAt w g 0 4 (itF nm nd p) :=
  ⟨h.lt, fun k hk => by
    have : k = 0 ∨ k = 1 ∨ k = 2 ∨ k = 3 := by omega
    subst hx hy
    rcases this with rfl | rfl | rfl | rfl
    · exact h.cell 0
    · exact h.cell 1
    · exact h.cell 2
    · exact h.cell 3⟩
/-- The lines of one permit up to a finding. -/
noncomputable def part (P : Pms) (L : Evl) (from_ sec : Int) (k j : Nat) : List ByteArray := ((pfnd P L from_ sec k).take j).map (fline (P.Nm k) (P.Nd k))
theorem part_succ (P : Pms) (L : Evl) (from_ sec : Int) {k j : Nat} (h : j < (pfnd P L from_ sec k).length) : part P L from_ sec k (j + 1) = part P L from_ sec k j ++ [fline (P.Nm k) (P.Nd k) (fK (pfnd P L from_ sec k) j, fV (pfnd P L from_ sec k) j)] := by
  unfold part
  rw [List.take_succ_eq_append_getElem h, List.map_append]
  simp [fK, fV, List.getD, h]
theorem part_all (P : Pms) (L : Evl) (from_ sec : Int) {k : Nat} (h : 0 < (pfnd P L from_ sec k).length) : part P L from_ sec k (pfnd P L from_ sec k).length = plin P L from_ sec k := by
  unfold part plin
  rw [List.take_length, if_neg (fun e => by rw [e] at h; simp at h)]
theorem part_none (P : Pms) (L : Evl) (from_ sec : Int) {k : Nat} (h : (pfnd P L from_ sec k).length = 0) : plin P L from_ sec k = [kline (P.Nm k) (P.Nd k)] := by
  unfold plin
  rw [if_pos (List.length_eq_zero_iff.1 h)]
theorem part_len (P : Pms) (L : Evl) (from_ sec : Int) (k j : Nat) (h20 : L.N k ≤ 20) : (part P L from_ sec k j).length ≤ 60 := by
  have := pfnd_len P L from_ sec k h20
  unfold part
  rw [List.length_map]
  exact Nat.le_trans (List.length_take_le' _ _) this
theorem fnd_at {P : Pms} {L : Evl} {from_ sec : Int} {k j : Nat} (h20 : L.N k ≤ 20) (h : j < (pfnd P L from_ sec k).length) : (fK (pfnd P L from_ sec k) j = 1 ∨ fK (pfnd P L from_ sec k) j = 2 ∨ fK (pfnd P L from_ sec k) j = 3) ∧ 0 ≤ fV (pfnd P L from_ sec k) j ∧ fV (pfnd P L from_ sec k) j ≤ 9999 := by
  have e : (fK (pfnd P L from_ sec k) j, fV (pfnd P L from_ sec k) j) = (pfnd P L from_ sec k)[j] := by simp [fK, fV, List.getD, h]
  have := pfnd_mem P L from_ sec h20 (p := (fK (pfnd P L from_ sec k) j, fV (pfnd P L from_ sec k) j)) (by rw [e]; exact List.getElem_mem _)
  exact this
theorem blk_app {w wx w' : World} {u : Value} {N g : Nat} {R : List ByteArray} {t : TypeId} {cs cs' : Array Value} (h : Blk wx g t cs) (hm : RMem5 w wx u N R) (hne : 9 ≠ t) (hg : (wx.alloc (.cells cs' 9)).grownBy w' u.ownBlock) : Blk w' g t cs :=
  (h.alloc _).grown hg (fun e => own_blk_ne (hm.1.alloc (.cells cs' 9)) (h.alloc _) hne e.symm)
end Go.Proofs.YtfldmnikdejekaaGreatDoor

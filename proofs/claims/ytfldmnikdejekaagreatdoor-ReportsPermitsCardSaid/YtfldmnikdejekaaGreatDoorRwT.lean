/- The package's Rows. -/
import Derived.Test.YtfldmnikdejekaaGreatDoorRowP
namespace Go.Proofs.YtfldmnikdejekaaGreatDoor
open Go.RowKit
set_option linter.unusedVariables false
set_option linter.unusedSimpArgs false

theorem infoS : (Tryz.prog.info? 9).map (fun i => (i.zero, i.size, i.bytes)) = some (some (.string ByteArray.empty), 1, 16) := by kernel_rfl
theorem h63_s {n : Nat} (h : n ≤ 300) : n + 1 ≤ maxLen := by simp only [maxLen]; omega
theorem hby_s {n : Nat} (h : n ≤ 300) : (n + 1) * 16 ≤ 140737488355328 := by omega
/-- What the loops keep: the cell of the width, and the frame. -/
def WMem (w wr : World) (g : Nat) (W : Int) : Prop := Blk wr g 3 #[.int .i64 W] ∧ Below w.heap.size w wr
theorem WMem.call {w wr w' : World} {g : Nat} {W : Int} (h : WMem w wr g W) (hb : Below wr.heap.size wr w') : WMem w w' g W := ⟨h.1.call hb, below_step h.2 hb⟩
/-- The rows that are owned. -/
def RMem5 (w wr : World) (u : Value) (N : Nat) (R : List ByteArray) : Prop := wr.ownsRow w.heap.size 9 1 u N (sc R) ∧ Below w.heap.size w wr
theorem RMem5.call {w wr w' : World} {u : Value} {N : Nat} {R : List ByteArray} (h : RMem5 w wr u N R) (hb : Below wr.heap.size wr w') : RMem5 w w' u N R := ⟨own_below h.1 hb, below_step h.2 hb⟩
theorem RMem5.app {w wr w' : World} {u v : Value} {N : Nat} {R : List ByteArray} {x : ByteArray} (h : RMem5 w wr u N R) {cs : Array Value} (hown : w'.ownsRow w.heap.size 9 1 v (N + 1) (sc R ++ [.string x])) (hg : (wr.alloc (.cells cs 9)).grownBy w' u.ownBlock) : RMem5 w w' v (N + 1) (R ++ [x]) :=
  ⟨by rw [sc_append]; exact hown, below_own (h.1.alloc _) (h.2.alloc h.2.size _) hg⟩
theorem RMem5.set {w wr : World} {g cap N k : Nat} {R : List ByteArray} {x : ByteArray} (h : RMem5 w wr (.slice (some ⟨g, 0, none⟩) N cap) N R) : RMem5 w (wr.setCell ⟨g, k, none⟩ (.string x)) (.slice (some ⟨g, 0, none⟩) N cap) N (R.set k x) := by
  refine ⟨?_, h.2.setCell (p := ⟨g, k, none⟩) (h.1.lt g rfl).1 _⟩
  have := (h.1.stored k (.string x)).1
  rw [sc_set] at this
  exact this
theorem RMem5.post {w w1 wr : World} {W : Int} {n : Nat} {X : Nat → ByteArray} {u : Value} {R : List ByteArray} {N : Nat} (h : RMem5 w1 wr u N R) (hw : Below w.heap.size w w1) (hN : N = R.length) (h300 : N ≤ 300) (hR : RowsIs W n X R 0) : RowsPost w W n X (.returned (.tuple #[u, .int .i64 0])) wr := by
  rcases h.1.2 with ⟨hv, h0⟩ | ⟨g, cap, cur, hv, _, _, hnc, _⟩
  · exact ⟨R, 0, none, 0, N, hN, hR, by rw [hv, h0], ⟨by omega, .inl h0⟩, below_step hw h.2, by omega⟩
  · have hown := h.1
    rw [hv, hN] at hown
    exact ⟨R, 0, some ⟨g, 0, none⟩, cap, N, hN, hR, by rw [hv], ⟨by omega, .inr ⟨g, 0, rfl, by rw [hN]; exact str_of_own hown⟩⟩, below_step hw h.2, hnc⟩
theorem RMem5.form {w wr : World} {u : Value} {N : Nat} {R : List ByteArray} (h : RMem5 w wr u N R) : ∃ A cap, u = .slice A N cap := by
  rcases h.1.2 with ⟨hv, h0⟩ | ⟨g, cap, cur, hv, _⟩
  · exact ⟨none, 0, by rw [hv, h0]⟩
  · exact ⟨_, cap, hv⟩
theorem bytes_cell (w : World) (s : ByteArray) : ∀ k, k < s.size → (Lib.bytesWorld w 5 s).cell? ⟨w.heap.size, 0 + k, none⟩ = some (.int .u8 (byt s k : Int)) := fun k hk => by
  rw [Nat.zero_add]
  exact Lib.bytesWorld_cell w _ s k hk
theorem empty_of {s : ByteArray} (h : s.size = 0) : s = ⟨#[]⟩ := list_of (List.eq_nil_of_length_eq_zero (by rw [← size_list]; exact h))
theorem not_empty {s : ByteArray} (h : s.size ≠ 0) : ¬ s.toList = [] := fun e => h (by rw [ByteArray.toList_eq] at e; rw [size_list, e]; rfl)
theorem badAt_iff (s : ByteArray) (hs : s.size ≠ 0) : badAt s ↔ ∃ j, j < s.size ∧ decide (byt s j < 33 ∨ 126 < byt s j) = true := by
  constructor
  · rintro (h | ⟨j, hj, h⟩)
    · exact absurd h hs
    · exact ⟨j, hj, decide_eq_true h⟩
  · rintro ⟨j, hj, h⟩
    exact .inr ⟨j, hj, of_decide_eq_true h⟩
set_option maxRecDepth 100000 in
set_option maxHeartbeats 4000000 in
theorem trows (A : Option Addr) (n c : Nat) (X : Nat → ByteArray) (W : Int) (h40 : n ≤ 40) (h600 : ∀ i, i < n → (X i).size ≤ 600) (w : World) (ht : StrIn w A n X) :
    Calls Tryz.prog 58 #[.slice A n c, .int .i64 W] w (RowsPost w W n X) := by
  have HT := Lib.hid ht
  have H40 := Lib.hid h40
  have H600 := Lib.hid h600
  by_cases hW : W < 1 ∨ 500 < W
  · have HR : Hid (RowsIs W n X [] 2) := .range hW
    by_cases h1 : W < 1
    · have t1 : decide (W < 1) = true := decide_eq_true h1
      clear hW h1 ht h40 h600
      go_enter Tryz.func58, Tryz.ntmps58
      go_wp2_with fail
      go_ret2
      exact rows_nil HR.out (by (repeat' (first | assumption | exact Below.refl _ _ | exact Below.size (by assumption) | (refine Below.setCell ?_ ?_ _) | (refine Below.alloc ?_ ?_ _) | (refine Below.drew ?_) | (refine below_drewN ?_ _) | (refine Below.trans ?_ (Below.mono ‹Below _ _ _› ?_)) | omega | (simp; done) | (simp; omega) | (simp at *; omega))))
    · have t1 : decide (W < 1) = false := decide_eq_false h1
      have t2 : decide ((500 : Int) < W) = true := decide_eq_true (by omega)
      clear hW h1 ht h40 h600
      go_enter Tryz.func58, Tryz.ntmps58
      go_wp2_with fail
      go_ret2
      exact rows_nil HR.out (by (repeat' (first | assumption | exact Below.refl _ _ | exact Below.size (by assumption) | (refine Below.setCell ?_ ?_ _) | (refine Below.alloc ?_ ?_ _) | (refine Below.drew ?_) | (refine below_drewN ?_ _) | (refine Below.trans ?_ (Below.mono ‹Below _ _ _› ?_)) | omega | (simp; done) | (simp; omega) | (simp at *; omega))))
  · have HWB : Hid (1 ≤ W ∧ W ≤ 500) := by show _ ∧ _; omega
    have t1 : decide (W < 1) = false := decide_eq_false (by omega)
    have t2 : decide ((500 : Int) < W) = false := decide_eq_false (by omega)
    clear hW ht h40 h600
    go_enter Tryz.func58, Tryz.ntmps58
    go_wp2_with fail
    have HM0 : Hid (WMem w (w.alloc (Obj.cells #[.int .i64 W] 3)) w.heap.size W) := ⟨Blk.new _ _ _, by (repeat' (first | assumption | exact Below.refl _ _ | exact Below.size (by assumption) | (refine Below.setCell ?_ ?_ _) | (refine Below.alloc ?_ ?_ _) | (refine Below.drew ?_) | (refine below_drewN ?_ _) | (refine Below.trans ?_ (Below.mono ‹Below _ _ _› ?_)) | omega | (simp; done) | (simp; omega) | (simp at *; omega)))⟩
    go_loopw [20] (fun u wr => ∃ i : Nat, Hid (i ≤ n) ∧ u = .int .i64 i ∧ Hid (∀ j, j < i → ¬ badAt (X j)) ∧ Hid (WMem w wr w.heap.size W)) (fun u _ => n - (intOf u).toNat)
    case atStart => exact ⟨0, Nat.zero_le _, rfl, fun j hj => absurd hj (Nat.not_lt_zero _), HM0⟩
    case round =>
      obtain ⟨i, Hi, rfl, HG, HM⟩ := hrel
      by_cases hlt : i < n
      · have T0 : decide ((i : Int) < (n : Int)) = true := by simp <;> omega
        have T0' : decide (i < n) = true := decide_eq_true hlt
        obtain ⟨i', hi'⟩ : ∃ z, z = i + 1 := ⟨_, rfl⟩
        have x0 : IntKind.i64.wrap ((i : Int) + 1) = (i' : Int) := by have := H40.out; rw [IntKind.wrap_i64]; omega
        have HI' : Hid (i' ≤ n) := by show i' ≤ n; omega
        have HMS : Hid (n - (intOf (Value.int .i64 (i' : Int))).toNat < n - (intOf (Value.int .i64 (i : Int))).toNat) := by show _ < _; simp [intOf]; omega
        have k0 : (0 : Int) ≤ (i : Int) := by omega
        have k1 : (i : Int) < (n : Int) := by omega
        obtain ⟨b, off, rfl, hb, hX⟩ := (HT.out.below (Nat.le_refl _) HM.out.2).at hlt
        obtain ⟨s, hs⟩ : ∃ z, z = X i := ⟨_, rfl⟩
        have hs6 : s.size ≤ 600 := by rw [hs]; exact H600.out i hlt
        rw [← hs] at hX
        by_cases hz : s.size = 0
        · have HR : Hid (RowsIs W n X [] 7) := .form HWB.out ⟨i, hlt, by rw [← hs]; exact .inl hz⟩
          rw [empty_of hz] at hX
          clear hi' hlt hs hz hs6
          go_wp2_with fail
          go_ret2
          exact rows_nil HR.out (by have := HM.out.2; (repeat' (first | assumption | exact Below.refl _ _ | exact Below.size (by assumption) | (refine Below.setCell ?_ ?_ _) | (refine Below.alloc ?_ ?_ _) | (refine Below.drew ?_) | (refine below_drewN ?_ _) | (refine Below.trans ?_ (Below.mono ‹Below _ _ _› ?_)) | omega | (simp; done) | (simp; omega) | (simp at *; omega))))
        · have u1 := not_empty hz
          have u3 : s.toList.isEmpty = false := by cases h : s.toList with | nil => exact absurd h u1 | cons a l => rfl
          have hcv := Lib.run_convert_string_bytes (P := Tryz.prog) wr 9 130 5 s Tryz.underlying9 Tryz.underlying130 Tryz.underlying5
          have hbw := Lib.bytesWorld_below wr 5 s
          have hbc := bytes_cell wr s
          have hbz : wr.heap.size < (Lib.bytesWorld wr 5 s).heap.size := by rw [Lib.bytesWorld_size]; omega
          generalize Lib.bytesWorld wr 5 s = wb at hcv hbw hbc hbz
          generalize grownCap wr s.size 0 5 = cb at hcv
          generalize hG : wr.heap.size = G at hcv hbc hbz
          have HBW := Lib.hid hbw
          have HBC : Hid (G < wb.heap.size ∧ ∀ k, k < s.size → wb.cell? ⟨G, 0 + k, none⟩ = some (.int .u8 (byt s k : Int))) := ⟨hbz, hbc⟩
          have HMB := Lib.hid (HM.out.call hbw)
          clear hbw hbc
          by_cases hbad : badAt s
          · have HR : Hid (RowsIs W n X [] 7) := .form HWB.out ⟨i, hlt, by rw [← hs]; exact hbad⟩
            have CB := Lib.hid fun (cap : Nat) (hh : G < wb.heap.size ∧ ∀ k, k < s.size → wb.cell? ⟨G, 0 + k, none⟩ = some (.int .u8 (byt s k : Int))) => has_bad G 0 s.size cap (byt s) wb (by omega) hh (fun k _ => byt_lt s k) true (by simp only [true_iff]; exact (badAt_iff s hz).1 hbad)
            clear hi' hlt hs hz hs6 hbad hbz
            go_wp2_with (first
              | (go_at_call 128
                 with_reducible refine (CB.out _ HBC.out).mono ?_
                 rintro e w4 ⟨rfl, hb4⟩
                 have HM4 := Lib.hid (HMB.out.call hb4)
                 clear hb4))
            go_ret2
            exact rows_nil HR.out HM4.out.2
          · have HG' : Hid (∀ j, j < i' → ¬ badAt (X j)) := by
              show ∀ j, j < i' → ¬ badAt (X j)
              intro j hj
              rcases Nat.lt_or_ge j i with g | g
              · exact HG.out j g
              · have : j = i := by omega
                rw [this, ← hs]; exact hbad
            have CB := Lib.hid fun (cap : Nat) (hh : G < wb.heap.size ∧ ∀ k, k < s.size → wb.cell? ⟨G, 0 + k, none⟩ = some (.int .u8 (byt s k : Int))) => has_bad G 0 s.size cap (byt s) wb (by omega) hh (fun k _ => byt_lt s k) false ⟨fun h => (by cases h), fun h => absurd ((badAt_iff s hz).2 h) hbad⟩
            clear hi' hlt hs hz hs6 hbad hbz
            go_wp2_with (first
              | (go_at_call 128
                 with_reducible refine (CB.out _ HBC.out).mono ?_
                 rintro e w4 ⟨rfl, hb4⟩
                 have HM4 := Lib.hid (HMB.out.call hb4)
                 clear hb4))
            go_roundw
            case rel => exact ⟨i', HI', rfl, HG', HM4⟩
            case measure => exact HMS.out
      · have hin : i = n := by have := Hi.out; omega
        have T0 : decide ((i : Int) < (n : Int)) = false := by simp <;> omega
        have T0' : decide (i < n) = false := decide_eq_false hlt
        rw [hin] at HG
        clear hlt hin
        have hcw := HM.out.1.cell 0
        have hcl := HM.out.1.lt
        simp only [List.getElem?_toArray, List.getElem?_cons_zero] at hcw
        by_cases hbig : ∃ j, j < n ∧ decide (W < ((X j).size : Int)) = true
        · have HR : Hid (RowsIs W n X [] 5) := .big HWB.out HG.out (by obtain ⟨j, hj, h⟩ := hbig; exact ⟨j, hj, of_decide_eq_true h⟩)
          have CW := Lib.hid (has_wide A n c X W w.heap.size wr (by have := H40.out; omega) (HT.out.below (Nat.le_refl _) HM.out.2) hcw hcl true (by simp only [true_iff]; exact hbig))
          clear hbig
          go_wp2_with (first
            | (go_at_call 65
               with_reducible refine CW.out.mono ?_
               rintro e w5 ⟨rfl, hb5⟩
               have HM5 := Lib.hid (HM.out.call hb5)
               clear hb5))
          go_ret2
          exact rows_nil HR.out HM5.out.2
        · have HSZ : Hid (∀ j, j < n → ((X j).size : Int) ≤ W) := by
            show ∀ j, j < n → ((X j).size : Int) ≤ W
            intro j hj
            have : ¬ W < ((X j).size : Int) := fun h => hbig ⟨j, hj, decide_eq_true h⟩
            omega
          have CW := Lib.hid (has_wide A n c X W w.heap.size wr (by have := H40.out; omega) (HT.out.below (Nat.le_refl _) HM.out.2) hcw hcl false ⟨fun h => (by cases h), fun h => absurd h hbig⟩)
          clear hbig
          obtain ⟨SI0, si0, sz0, sz1, sz2⟩ := info_parts1 infoS
          have SI1 := Lib.hid si0
          have SI2 := Lib.hid sz0
          have SI3 := Lib.hid sz1
          have SI4 := Lib.hid sz2
          clear si0 sz0 sz1 sz2 hcw hcl
          go_wp2_with (first
            | (go_at_call 65
               with_reducible refine CW.out.mono ?_
               rintro e w5 ⟨rfl, hb5⟩
               have HM5 := Lib.hid (HM.out.call hb5)
               clear hb5))
          go_loopw [8, 37] (fun u v wr => ∃ (i N : Nat) (R : List ByteArray), Hid (i ≤ n) ∧ Hid (R = rowsTo W X i) ∧ Hid (N = R.length) ∧ v = .int .i64 i ∧ Hid (RMem5 w5 wr u N R)) (fun _ v _ => n - (intOf v).toNat)
          case atStart => exact ⟨0, 0, [], Nat.zero_le _, rfl, rfl, rfl, World.ownsRow_nil _ _ _ _, Below.refl _ _⟩
          case round =>
            obtain ⟨i, N, R, Hi, HR, HN, rfl, HQ⟩ := hrel
            obtain ⟨A8, cap8, h8⟩ := HQ.out.form
            subst h8
            have HN300 : Hid (N ≤ 300) := by show N ≤ 300; have h1 := (rows_len W X i).1; have h2 := HN.out; have h3 := Hi.out; have h4 := H40.out; rw [HR.out] at h2; omega
            by_cases hlt : i < n
            · have T0 : decide ((i : Int) < (n : Int)) = true := by simp <;> omega
              have T0' : decide (i < n) = true := decide_eq_true hlt
              obtain ⟨i', hi'⟩ : ∃ z, z = i + 1 := ⟨_, rfl⟩
              have x0 : IntKind.i64.wrap ((i : Int) + 1) = (i' : Int) := by have := H40.out; rw [IntKind.wrap_i64]; omega
              have HI' : Hid (i' ≤ n) := by show i' ≤ n; omega
              have HMS : Hid (n - (intOf (Value.int .i64 (i' : Int))).toNat < n - (intOf (Value.int .i64 (i : Int))).toNat) := by show _ < _; simp [intOf]; omega
              have k0 : (0 : Int) ≤ (i : Int) := by omega
              have k1 : (i : Int) < (n : Int) := by omega
              have HWq : Hid (Below w.heap.size w wr) := below_step HM5.out.2 HQ.out.2
              obtain ⟨b, off, rfl, hb, hX⟩ := (HT.out.below (Nat.le_refl _) HWq.out).at hlt
              obtain ⟨s, hs⟩ : ∃ z, z = X i := ⟨_, rfl⟩
              have hs5 : s.size ≤ 500 := by have h1 := HSZ.out i hlt; have h2 := HWB.out; rw [← hs] at h1; omega
              rw [← hs] at hX
              have HNX : Hid (rowsTo W X i' = putR W R s) := by show _ = _; rw [hi', hs, HR.out]; rfl
              have HBQ := Lib.hid (HM5.out.1.below HQ.out.2 HM5.out.1.lt)
              have hcw := HBQ.out.cell 0
              have hcl := HBQ.out.lt
              simp only [List.getElem?_toArray, List.getElem?_cons_zero] at hcw
              clear hi' hlt hs
              cases N with
              | zero =>
                have e1 : IntKind.i64.wrap (((0 : Nat) : Int) - 1) = -1 := by rw [IntKind.wrap_i64]; omega
                have e1' : IntKind.i64.wrap ((0 : Int) - 1) = -1 := by rw [IntKind.wrap_i64]; omega
                have hR0 : R = [] := List.eq_nil_of_length_eq_zero HN.out.symm
                have HN2 : Hid (rowsTo W X i' = R ++ [s]) := by show _ = _; rw [HNX.out, put_nil hR0]
                clear hR0
                go_wp2_with fail
                go_cut [58] from 44 to 57 (fun z wx => z = .bool false ∧ RMem5 w5 wx (.slice A8 0 cap8) 0 R)
                case first =>
                  go_quiet (fail)
                  go_wp2_with fail
                  go_meet
                  exact ⟨by simp [*], HQ.out.call (by (repeat' (first | assumption | exact Below.refl _ _ | exact Below.size (by assumption) | (refine Below.setCell ?_ ?_ _) | (refine Below.alloc ?_ ?_ _) | (refine Below.drew ?_) | (refine below_drewN ?_ _) | (refine Below.trans ?_ (Below.mono ‹Below _ _ _› ?_)) | omega | (simp; done) | (simp; omega) | (simp at *; omega))))⟩
                case rest =>
                  obtain ⟨rfl, hmx⟩ := hcut
                  generalize wc = wx at hmx ⊢
                  have HMX := Lib.hid hmx
                  clear hmx
                  go_wp2_with (first
                    | (at_builtin; refine wpList_append_own_at _ ?paa (.tmp 67) (.tmp 69) 27 ?pab (w5.heap.size) 9 SI0 (.string ByteArray.empty) 1 16 Tryz.underlying27 SI1.out SI2.out SI3.out SI4.out ?pac ?pad (.slice A8 0 cap8) (0) (sc R) ?pae (HMX.out.1.alloc _) (⟨wx.heap.size, 0, none⟩) (1) (1) ([.string s]) ?pag (rfl) (World.news_of_block (cs := #[.string s]) (t := 9) (fr := (0, 0)) (heap_alloc_new _ _)) ((by simp [Value.oneCell'])) (h63_s HN300.out) (hby_s HN300.out) (Nat.le_trans HMX.out.2.size (by simp)) ?pah
                       case paa => exact rfl
                       case pab => exact rfl
                       case pac => exact rfl
                       case pad => decide
                       case pae => exact rfl
                       case pag => exact rfl
                       intro v2 w7 hown2 hgrow2 hnil2 hat2
                       have HM7 := Lib.hid (HMX.out.app hown2 hgrow2)
                       clear hown2 hgrow2 hnil2 hat2))
                  go_roundw
                  case rel => exact ⟨i', 0 + 1, R ++ [s], HI', HN2.out.symm, by show 0 + 1 = _; rw [List.length_append, ← HN.out]; rfl, rfl, HM7⟩
                  case measure => exact HMS.out
              | succ k =>
                have e1 : IntKind.i64.wrap (((k + 1 : Nat) : Int) - 1) = (k : Int) := by have := HN300.out; rw [IntKind.wrap_i64]; omega
                obtain ⟨N, hNk⟩ : ∃ z, z = k + 1 := ⟨_, rfl⟩
                rw [← hNk] at e1 HQ HN300 HN ⊢
                obtain ⟨g8, cp8, hv8, hg8, hl8⟩ := HQ.out.1.form (by omega)
                injection hv8 with ha8 hn8 hc8
                subst ha8
                obtain ⟨l, hl⟩ : ∃ z, z = R.getD k ByteArray.empty := ⟨_, rfl⟩
                have hkR : R.length = k + 1 := by rw [← HN.out, hNk]
                have hl5 : l.size ≤ 500 := by
                  have h1 := rows_size (W := W) (X := X) i (fun j hj => HSZ.out j (by have := Hi.out; omega)) l (by rw [← HR.out, hl]; exact (by rw [List.getD_eq_getElem?_getD, List.getElem?_eq_getElem (by omega)]; exact List.getElem_mem _))
                  have h2 := HWB.out
                  omega
                have HCL : Hid (∀ wz, RMem5 w5 wz (.slice (some ⟨g8, 0, none⟩) N cap8) N R → wz.cell? ⟨g8, k, none⟩ = some (.string l) ∧ wz.frozen? ⟨g8, k, none⟩ = false ∧ g8 < wz.heap.size) := fun wz h => ⟨by rw [h.1.cellAt k (by omega), sc_at (by omega), ← hl], h.1.frozenAt k, (h.1.lt g8 rfl).2⟩
                have c8 := (HCL.out _ HQ.out).1
                have kk0 : (0 : Int) ≤ (k : Int) := by omega
                have kk1 : (k : Int) < (N : Int) := by omega
                have kk2 : k < N := by omega
                obtain ⟨q1, hq1⟩ : ∃ z : Nat, z = l.size + 1 := ⟨_, rfl⟩
                obtain ⟨q2, hq2⟩ : ∃ z : Nat, z = q1 + s.size := ⟨_, rfl⟩
                have y1 : IntKind.i64.wrap ((l.size : Int) + 1) = (q1 : Int) := by rw [IntKind.wrap_i64]; omega
                have y2 : IntKind.i64.wrap ((q1 : Int) + (s.size : Int)) = (q2 : Int) := by rw [IntKind.wrap_i64]; omega
                have t0 : decide ((0 : Int) ≤ (k : Int)) = true := decide_eq_true kk0
                by_cases hfit : (q2 : Int) ≤ W
                · have t9 : decide ((q2 : Int) ≤ W) = true := decide_eq_true hfit
                  have HN2 : Hid (rowsTo W X i' = R.set k (l ++ (sp ++ s))) := by show _ = _; rw [HNX.out, put_fit hkR hl.symm (by omega)]
                  clear hNk hn8 hc8 hl hkR hq1 hq2 hfit
                  go_wp2_with fail
                  go_cut [58] from 44 to 57 (fun z wx => z = .bool true ∧ RMem5 w5 wx (.slice (some ⟨g8, 0, none⟩) N cap8) N R)
                  case first =>
                    go_quiet (fail)
                    go_wp2_with fail
                    go_meet
                    exact ⟨by simp [*], HQ.out.call (by (repeat' (first | assumption | exact Below.refl _ _ | exact Below.size (by assumption) | (refine Below.setCell ?_ ?_ _) | (refine Below.alloc ?_ ?_ _) | (refine Below.drew ?_) | (refine below_drewN ?_ _) | (refine Below.trans ?_ (Below.mono ‹Below _ _ _› ?_)) | omega | (simp; done) | (simp; omega) | (simp at *; omega))))⟩
                  case rest =>
                    obtain ⟨rfl, hmx⟩ := hcut
                    generalize wc = wx at hmx ⊢
                    have HMX := Lib.hid hmx
                    obtain ⟨c9, f9, l9⟩ := HCL.out _ hmx
                    clear hmx c8
                    go_wp2_with fail
                    have HM7 := Lib.hid (HMX.out.set (k := k) (x := l ++ (sp ++ s)))
                    go_roundw
                    case rel => exact ⟨i', N, R.set k (l ++ (sp ++ s)), HI', HN2.out.symm, by show N = _; rw [List.length_set]; exact HN.out, rfl, HM7⟩
                    case measure => exact HMS.out
                · have t9 : decide ((q2 : Int) ≤ W) = false := decide_eq_false hfit
                  have HN2 : Hid (rowsTo W X i' = R ++ [s]) := by show _ = _; rw [HNX.out, put_new hkR hl.symm (by omega)]
                  clear hNk hn8 hc8 hl hkR hq1 hq2 hfit
                  go_wp2_with fail
                  go_cut [58] from 44 to 57 (fun z wx => z = .bool false ∧ RMem5 w5 wx (.slice (some ⟨g8, 0, none⟩) N cap8) N R)
                  case first =>
                    go_quiet (fail)
                    go_wp2_with fail
                    go_meet
                    exact ⟨by simp [*], HQ.out.call (by (repeat' (first | assumption | exact Below.refl _ _ | exact Below.size (by assumption) | (refine Below.setCell ?_ ?_ _) | (refine Below.alloc ?_ ?_ _) | (refine Below.drew ?_) | (refine below_drewN ?_ _) | (refine Below.trans ?_ (Below.mono ‹Below _ _ _› ?_)) | omega | (simp; done) | (simp; omega) | (simp at *; omega))))⟩
                  case rest =>
                    obtain ⟨rfl, hmx⟩ := hcut
                    generalize wc = wx at hmx ⊢
                    have HMX := Lib.hid hmx
                    clear hmx c8
                    go_wp2_with (first
                      | (at_builtin; refine wpList_append_own_at _ ?pba (.tmp 67) (.tmp 69) 27 ?pbb (w5.heap.size) 9 SI0 (.string ByteArray.empty) 1 16 Tryz.underlying27 SI1.out SI2.out SI3.out SI4.out ?pbc ?pbd (.slice (some ⟨g8, 0, none⟩) N cap8) (N) (sc R) ?pbe (HMX.out.1.alloc _) (⟨wx.heap.size, 0, none⟩) (1) (1) ([.string s]) ?pbg (rfl) (World.news_of_block (cs := #[.string s]) (t := 9) (fr := (0, 0)) (heap_alloc_new _ _)) ((by simp [Value.oneCell'])) (h63_s HN300.out) (hby_s HN300.out) (Nat.le_trans HMX.out.2.size (by simp)) ?pbh
                         case pba => exact rfl
                         case pbb => exact rfl
                         case pbc => exact rfl
                         case pbd => decide
                         case pbe => exact rfl
                         case pbg => exact rfl
                         intro v2 w7 hown2 hgrow2 hnil2 hat2
                         have HM7 := Lib.hid (HMX.out.app hown2 hgrow2)
                         clear hown2 hgrow2 hnil2 hat2))
                    go_roundw
                    case rel => exact ⟨i', N + 1, R ++ [s], HI', HN2.out.symm, by show N + 1 = _; rw [List.length_append, HN.out]; rfl, rfl, HM7⟩
                    case measure => exact HMS.out
            · have hin : i = n := by have := Hi.out; omega
              have T0 : decide ((i : Int) < (n : Int)) = false := by simp <;> omega
              have T0' : decide (i < n) = false := decide_eq_false hlt
              have HRS : Hid (RowsIs W n X R 0) := by
                have h := RowsIs.ok HWB.out HG.out HSZ.out
                rw [← hin, ← HR.out, hin] at h
                exact h
              clear hlt hin
              go_wp2_with fail
              go_ret2
              exact HQ.out.post HM5.out.2 HN.out HN300.out HRS.out
end Go.Proofs.YtfldmnikdejekaaGreatDoor

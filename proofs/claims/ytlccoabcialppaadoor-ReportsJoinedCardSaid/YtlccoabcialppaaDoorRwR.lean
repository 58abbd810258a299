/- The reference's Rows. -/
import Derived.Test.YtlccoabcialppaaDoorRwT
import Derived.StillTailTactics
namespace Go.Proofs.YtlccoabcialppaaDoor
open Go.RowKit
set_option linter.unusedVariables false
set_option linter.unusedSimpArgs false

theorem RMem.drew {w wr : World} {u : Value} {N : Nat} {R : List ByteArray} (h : RMem w wr u N R) : RMem w wr.drew u N R := ⟨h.1.drew, h.2.drew⟩
set_option maxRecDepth 100000 in
set_option maxHeartbeats 4000000 in
theorem rrows (A : Option Addr) (n c : Nat) (X : Nat → ByteArray) (W : Int) (h40 : n ≤ 40) (h600 : ∀ i, i < n → (X i).size ≤ 600) (w : World) (ht : StrIn w A n X) :
    Calls Tryd.prog 11 #[.slice A n c, .int .i64 W] w (RowsPost w W n X) := by
  have HT := Lib.hid ht
  have H40 := Lib.hid h40
  have H600 := Lib.hid h600
  by_cases hW : W < 1 ∨ 500 < W
  · have HR : Hid (RowsIs W n X [] 2) := .range hW
    by_cases h1 : W < 1
    · have t1 : decide (W < 1) = true := decide_eq_true h1
      clear hW h1 ht h40 h600
      go_enter Tryd.func11, Tryd.ntmps11
      go_wp2_with fail
      go_ret2
      exact rows_nil HR.out (by (repeat' (first | assumption | exact Below.refl _ _ | exact Below.size (by assumption) | (refine Below.setCell ?_ ?_ _) | (refine Below.alloc ?_ ?_ _) | (refine Below.drew ?_) | (refine below_drewN ?_ _) | (refine Below.trans ?_ (Below.mono ‹Below _ _ _› ?_)) | omega | (simp; done) | (simp; omega) | (simp at *; omega))))
    · have t1 : decide (W < 1) = false := decide_eq_false h1
      have t2 : decide ((500 : Int) < W) = true := decide_eq_true (by omega)
      clear hW h1 ht h40 h600
      go_enter Tryd.func11, Tryd.ntmps11
      go_wp2_with fail
      go_ret2
      exact rows_nil HR.out (by (repeat' (first | assumption | exact Below.refl _ _ | exact Below.size (by assumption) | (refine Below.setCell ?_ ?_ _) | (refine Below.alloc ?_ ?_ _) | (refine Below.drew ?_) | (refine below_drewN ?_ _) | (refine Below.trans ?_ (Below.mono ‹Below _ _ _› ?_)) | omega | (simp; done) | (simp; omega) | (simp at *; omega))))
  · have HWB : Hid (1 ≤ W ∧ W ≤ 500) := by show _ ∧ _; omega
    have t1 : decide (W < 1) = false := decide_eq_false (by omega)
    have t2 : decide ((500 : Int) < W) = false := decide_eq_false (by omega)
    clear hW ht h40 h600
    go_enter Tryd.func11, Tryd.ntmps11
    go_wp2_with fail
    go_loop [6] (fun u => ∃ i : Nat, Hid (i ≤ n) ∧ u = .int .i64 i ∧ Hid (∀ j, j < i → ¬ badAt (X j))) (fun u => n - (intOf u).toNat)
    case atStart => exact ⟨0, Nat.zero_le _, rfl, fun j hj => absurd hj (Nat.not_lt_zero _)⟩
    case round =>
      obtain ⟨i, Hi, rfl, HG⟩ := hrel
      by_cases hlt : i < n
      · have T0 : decide ((i : Int) < (n : Int)) = true := by simp <;> omega
        have T0' : decide (i < n) = true := decide_eq_true hlt
        obtain ⟨i', hi'⟩ : ∃ z, z = i + 1 := ⟨_, rfl⟩
        have x0 : IntKind.i64.wrap ((i : Int) + 1) = (i' : Int) := by have := H40.out; rw [IntKind.wrap_i64]; omega
        have HI' : Hid (i' ≤ n) := by show i' ≤ n; omega
        have HMS : Hid (n - (intOf (Value.int .i64 (i' : Int))).toNat < n - (intOf (Value.int .i64 (i : Int))).toNat) := by show _ < _; simp [intOf]; omega
        have k0 : (0 : Int) ≤ (i : Int) := by omega
        have k1 : (i : Int) < (n : Int) := by omega
        obtain ⟨b, off, rfl, hb, hX⟩ := HT.out.at hlt
        obtain ⟨s, hs⟩ : ∃ z, z = X i := ⟨_, rfl⟩
        have hs6 : s.size ≤ 600 := by rw [hs]; exact H600.out i hlt
        rw [← hs] at hX
        have HS := Lib.hid hs
        have HLT := Lib.hid hlt
        have HIS := Lib.hid hi'
        by_cases hz : s.size = 0
        · have HR : Hid (RowsIs W n X [] 7) := .form HWB.out ⟨i, hlt, by rw [← hs]; exact .inl hz⟩
          rw [empty_of hz] at hX
          clear hi' hlt hs hz hs6
          go_wp2_with fail
          go_ret2
          exact rows_nil HR.out (by (repeat' (first | assumption | exact Below.refl _ _ | exact Below.size (by assumption) | (refine Below.setCell ?_ ?_ _) | (refine Below.alloc ?_ ?_ _) | (refine Below.drew ?_) | (refine below_drewN ?_ _) | (refine Below.trans ?_ (Below.mono ‹Below _ _ _› ?_)) | omega | (simp; done) | (simp; omega) | (simp at *; omega))))
        · have u1 := not_empty hz
          have u3 : s.toList.isEmpty = false := by cases h : s.toList with | nil => exact absurd h u1 | cons a l => rfl
          have HZ := Lib.hid hz
          clear hi' hlt hs hz
          go_wp2_with fail
          go_loop [7] (fun u => ∃ k : Nat, Hid (k ≤ s.size) ∧ u = .int .i64 k ∧ Hid (∀ j, j < k → ¬ (byt s j < 33 ∨ 126 < byt s j))) (fun u => s.size - (intOf u).toNat)
          case atStart => exact ⟨0, Nat.zero_le _, rfl, fun j hj => absurd hj (Nat.not_lt_zero _)⟩
          case round =>
            obtain ⟨k, Hk, rfl, HB⟩ := hrel
            by_cases hks : k < s.size
            · have Q0 : decide ((k : Int) < (s.size : Int)) = true := decide_eq_true (by omega)
              have Q0' : decide (k < s.size) = true := decide_eq_true hks
              have q2 : (0 : Int) ≤ (k : Int) := by omega
              have q3 : (k : Int) < (s.size : Int) := by omega
              obtain ⟨k', hk'⟩ : ∃ z, z = k + 1 := ⟨_, rfl⟩
              have y0 : IntKind.i64.wrap ((k : Int) + 1) = (k' : Int) := by rw [IntKind.wrap_i64]; omega
              have HK' : Hid (k' ≤ s.size) := by show k' ≤ s.size; omega
              have HMK : Hid (s.size - (intOf (Value.int .i64 (k' : Int))).toNat < s.size - (intOf (Value.int .i64 (k : Int))).toNat) := by show _ < _; simp [intOf]; omega
              obtain ⟨ch, hc⟩ : ∃ c : Nat, (s[k]'hks).toNat = c := ⟨_, rfl⟩
              have hcb : byt s k = ch := by rw [← byt_at s k hks]; exact hc
              by_cases b1 : ch < 33
              · have HR : Hid (RowsIs W n X [] 7) := .form HWB.out ⟨i, HLT.out, by rw [← HS.out]; exact .inr ⟨k, hks, .inl (by rw [hcb]; exact b1)⟩⟩
                have z1 : decide ((ch : Int) < 33) = true := decide_eq_true (by omega)
                have z1' : decide (ch < 33) = true := decide_eq_true b1
                clear hk' hcb b1 hs6
                go_wp2_with fail
                go_ret2
                exact rows_nil HR.out (by (repeat' (first | assumption | exact Below.refl _ _ | exact Below.size (by assumption) | (refine Below.setCell ?_ ?_ _) | (refine Below.alloc ?_ ?_ _) | (refine Below.drew ?_) | (refine below_drewN ?_ _) | (refine Below.trans ?_ (Below.mono ‹Below _ _ _› ?_)) | omega | (simp; done) | (simp; omega) | (simp at *; omega))))
              · have z1 : decide ((ch : Int) < 33) = false := decide_eq_false (by omega)
                have z1' : decide (ch < 33) = false := decide_eq_false b1
                by_cases b2 : 126 < ch
                · have HR : Hid (RowsIs W n X [] 7) := .form HWB.out ⟨i, HLT.out, by rw [← HS.out]; exact .inr ⟨k, hks, .inr (by rw [hcb]; exact b2)⟩⟩
                  have z2 : decide ((126 : Int) < (ch : Int)) = true := decide_eq_true (by omega)
                  have z2' : decide (126 < ch) = true := decide_eq_true b2
                  clear hk' hcb b1 b2 hs6
                  go_wp2_with fail
                  go_ret2
                  exact rows_nil HR.out (by (repeat' (first | assumption | exact Below.refl _ _ | exact Below.size (by assumption) | (refine Below.setCell ?_ ?_ _) | (refine Below.alloc ?_ ?_ _) | (refine Below.drew ?_) | (refine below_drewN ?_ _) | (refine Below.trans ?_ (Below.mono ‹Below _ _ _› ?_)) | omega | (simp; done) | (simp; omega) | (simp at *; omega))))
                · have z2 : decide ((126 : Int) < (ch : Int)) = false := decide_eq_false (by omega)
                  have z2' : decide (126 < ch) = false := decide_eq_false b2
                  have HB2 : Hid (∀ j, j < k' → ¬ (byt s j < 33 ∨ 126 < byt s j)) := by
                    show ∀ j, j < k' → ¬ (byt s j < 33 ∨ 126 < byt s j)
                    intro j hj
                    rcases Nat.lt_or_ge j k with g | g
                    · exact HB.out j g
                    · have : j = k := by omega
                      rw [this, hcb]; omega
                  clear hk' hcb b1 b2 hs6
                  go_wp2_with fail
                  go_round
                  case rel => exact ⟨k', HK', rfl, HB2⟩
                  case measure => exact HMK.out
            · have Q0 : decide ((k : Int) < (s.size : Int)) = false := decide_eq_false (by omega)
              have Q0' : decide (k < s.size) = false := decide_eq_false hks
              have HG' : Hid (∀ j, j < i' → ¬ badAt (X j)) := by
                show ∀ j, j < i' → ¬ badAt (X j)
                intro j hj
                rcases Nat.lt_or_ge j i with g | g
                · exact HG.out j g
                · have hji : j = i := by have := HIS.out; omega
                  rw [hji, ← HS.out]
                  rintro (h | ⟨q, hq, h⟩)
                  · exact HZ.out h
                  · exact HB.out q (by omega) h
              clear hks hs6
              go_wp2_with fail
              go_round
              case rel => exact ⟨i', HI', rfl, HG'⟩
              case measure => exact HMS.out
      · have hin : i = n := by have := Hi.out; omega
        have T0 : decide ((i : Int) < (n : Int)) = false := by simp <;> omega
        have T0' : decide (i < n) = false := decide_eq_false hlt
        rw [hin] at HG
        clear hlt hin
        obtain ⟨SI0, si0, sz0, sz1, sz2⟩ := info_parts1 infoS
        have SI1 := Lib.hid si0
        have SI2 := Lib.hid sz0
        have SI3 := Lib.hid sz1
        have SI4 := Lib.hid sz2
        clear si0 sz0 sz1 sz2
        go_wp2_with fail
        go_loopw [8, 9] (fun u v wr => ∃ (i N : Nat) (R : List ByteArray), Hid (i ≤ n) ∧ Hid (R = rowsTo W X i) ∧ Hid (N = R.length) ∧ v = .int .i64 i ∧ Hid (∀ j, j < i → ((X j).size : Int) ≤ W) ∧ Hid (RMem w wr u N R)) (fun _ v _ => n - (intOf v).toNat)
        case atStart => exact ⟨0, 0, [], Nat.zero_le _, rfl, rfl, rfl, fun j hj => absurd hj (Nat.not_lt_zero _), World.ownsRow_nil _ _ _ _, Below.refl _ _⟩
        case round =>
          obtain ⟨i, N, R, Hi, HR, HN, rfl, HSZ, HQ⟩ := hrel
          obtain ⟨A8, cap8, h8⟩ := HQ.out.form
          subst h8
          have HN300 : Hid (N ≤ 300) := by show N ≤ 300; have h1 := (rows_len W X i).1; have h2 := HN.out; have h3 := Hi.out; have h4 := H40.out; rw [HR.out] at h2; omega
          by_cases hlt : i < n
          · have T0 : decide ((i : Int) < (n : Int)) = true := by simp <;> omega
            have T0' : decide (i < n) = true := decide_eq_true hlt
            obtain ⟨i', hi'⟩ : ∃ z, z = i + 1 := ⟨_, rfl⟩
            have x0 : IntKind.i64.wrap ((i : Int) + 1) = (i' : Int) := by have := H40.out; rw [IntKind.wrap_i64]; omega
            have HI' : Hid (i' ≤ n) := by show i' ≤ n; omega
            have HMS : Hid (n - (intOf (Value.int .i64 (i' : Int))).toNat < n - (intOf (Value.int .i64 (i : Int))).toNat) := by show _ < _; simp [intOf]; omega
            have k0 : (0 : Int) ≤ (i : Int) := by omega
            have k1 : (i : Int) < (n : Int) := by omega
            obtain ⟨b, off, hAe, hb0, hX0⟩ := HT.out.at hlt
            subst hAe
            obtain ⟨s, hs⟩ : ∃ z, z = X i := ⟨_, rfl⟩
            rw [← hs] at hX0
            have HXC : Hid (∀ wz, Below w.heap.size w wz → wz.cell? ⟨b, off + i, none⟩ = some (.string s)) := fun wz h => (h.cell (p := ⟨b, off + i, none⟩) hb0).trans hX0
            have hX := HXC.out _ HQ.out.2
            by_cases hbig : W < (s.size : Int)
            · have HRR : Hid (RowsIs W n X [] 5) := .big HWB.out HG.out ⟨i, hlt, by rw [← hs]; exact hbig⟩
              have t3 : decide (W < (s.size : Int)) = true := decide_eq_true hbig
              clear hi' hlt hs hbig hX0
              go_wp2_with fail
              go_ret2
              exact rows_nil HRR.out HQ.out.2
            · have t3 : decide (W < (s.size : Int)) = false := decide_eq_false hbig
              have hs5 : s.size ≤ 500 := by have h2 := HWB.out; omega
              have HSZ2 : Hid (∀ j, j < i' → ((X j).size : Int) ≤ W) := by
                show ∀ j, j < i' → ((X j).size : Int) ≤ W
                intro j hj
                rcases Nat.lt_or_ge j i with g | g
                · exact HSZ.out j g
                · have : j = i := by omega
                  rw [this, ← hs]; omega
              have HNX : Hid (rowsTo W X i' = putR W R s) := by show _ = _; rw [hi', hs, HR.out]; rfl
              clear hi' hlt hs hbig hX0
              cases N with
              | zero =>
                have e1 : IntKind.i64.wrap (((0 : Nat) : Int) - 1) = -1 := by rw [IntKind.wrap_i64]; omega
                have e1' : IntKind.i64.wrap ((0 : Int) - 1) = -1 := by rw [IntKind.wrap_i64]; omega
                have hR0 : R = [] := List.eq_nil_of_length_eq_zero HN.out.symm
                have HN2 : Hid (rowsTo W X i' = R ++ [s]) := by show _ = _; rw [HNX.out, put_nil hR0]
                clear hR0
                go_wp2_with fail
                go_cut [86] from 69 to 85 (fun z wx => z = .bool false ∧ RMem w wx (.slice A8 0 cap8) 0 R)
                case first =>
                  go_quiet (fail)
                  go_wp2_with fail
                  go_meet
                  exact ⟨by simp [*], HQ.out.call (by (repeat' (first | assumption | exact Below.refl _ _ | exact Below.size (by assumption) | (refine Below.setCell ?_ ?_ _) | (refine Below.alloc ?_ ?_ _) | (refine Below.drew ?_) | (refine below_drewN ?_ _) | (refine Below.trans ?_ (Below.mono ‹Below _ _ _› ?_)) | omega | (simp; done) | (simp; omega) | (simp at *; omega))))⟩
                case rest =>
                  obtain ⟨rfl, hmx⟩ := hcut
                  generalize wc = wx at hmx ⊢
                  have HMX := Lib.hid hmx
                  have hXx := HXC.out _ hmx.2
                  clear hmx hX
                  go_wp2_with (first
                    | (at_builtin; refine wpList_append_own_at _ ?paa (.tmp 100) (.tmp 105) 22 ?pab (w.heap.size) 9 SI0 (.string ByteArray.empty) 1 16 Tryd.underlying22 SI1.out SI2.out SI3.out SI4.out ?pac ?pad (.slice A8 0 cap8) (0) (sc R) ?pae (HMX.out.1.alloc _) (⟨wx.heap.size, 0, none⟩) (1) (1) ([.string s]) ?pag (rfl) (World.news_of_block (cs := #[.string s]) (t := 9) (fr := (0, 0)) (heap_alloc_new _ _)) ((by simp [Value.oneCell'])) (h63_s HN300.out) (hby_s HN300.out) (Nat.le_trans HMX.out.2.size (by simp)) ?pah
                       case paa => exact rfl
                       case pab => exact rfl
                       case pac => exact rfl
                       case pad => decide
                       case pae => exact rfl
                       case pag => exact rfl
                       intro v2 w7 hown2 hgrow2 hnil2 hat2
                       have HM7 := Lib.hid (HMX.out.app hown2 hgrow2)
                       clear hown2 hgrow2 hnil2 hat2))
                  go_roundw
                  case rel => exact ⟨i', 0 + 1, R ++ [s], HI', HN2.out.symm, by show 0 + 1 = _; rw [List.length_append, ← HN.out]; rfl, rfl, HSZ2, HM7⟩
                  case measure => exact HMS.out
              | succ k =>
                have e1 : IntKind.i64.wrap (((k + 1 : Nat) : Int) - 1) = (k : Int) := by have := HN300.out; rw [IntKind.wrap_i64]; omega
                obtain ⟨N, hNk⟩ : ∃ z, z = k + 1 := ⟨_, rfl⟩
                rw [← hNk] at e1 HQ HN300 HN ⊢
                obtain ⟨g8, cp8, hv8, hg8, hl8⟩ := HQ.out.1.form (by omega)
                injection hv8 with ha8 hn8 hc8
                subst ha8
                obtain ⟨l, hl⟩ : ∃ z, z = R.getD k ByteArray.empty := ⟨_, rfl⟩
                have hkR : R.length = k + 1 := by rw [← HN.out, hNk]
                have hl5 : l.size ≤ 500 := by
                  have h1 := rows_size (W := W) (X := X) i (fun j hj => HSZ.out j hj) l (by rw [← HR.out, hl]; exact (by rw [List.getD_eq_getElem?_getD, List.getElem?_eq_getElem (by omega)]; exact List.getElem_mem _))
                  have h2 := HWB.out
                  omega
                have HCL : Hid (∀ wz, RMem w wz (.slice (some ⟨g8, 0, none⟩) N cap8) N R → wz.cell? ⟨g8, k, none⟩ = some (.string l) ∧ wz.frozen? ⟨g8, k, none⟩ = false ∧ g8 < wz.heap.size) := fun wz h => ⟨by rw [h.1.cellAt k (by omega), sc_at (by omega), ← hl], h.1.frozenAt k, (h.1.lt g8 rfl).2⟩
                have c8 := (HCL.out _ HQ.out).1
                have kk0 : (0 : Int) ≤ (k : Int) := by omega
                have kk1 : (k : Int) < (N : Int) := by omega
                have kk2 : k < N := by omega
                obtain ⟨q1, hq1⟩ : ∃ z : Nat, z = l.size + 1 := ⟨_, rfl⟩
                obtain ⟨q2, hq2⟩ : ∃ z : Nat, z = q1 + s.size := ⟨_, rfl⟩
                have y1 : IntKind.i64.wrap ((l.size : Int) + 1) = (q1 : Int) := by rw [IntKind.wrap_i64]; omega
                have y2 : IntKind.i64.wrap ((q1 : Int) + (s.size : Int)) = (q2 : Int) := by rw [IntKind.wrap_i64]; omega
                have t0 : decide ((0 : Int) ≤ (k : Int)) = true := decide_eq_true kk0
                by_cases hfit : (q2 : Int) ≤ W
                · have t9 : decide ((q2 : Int) ≤ W) = true := decide_eq_true hfit
                  have HN2 : Hid (rowsTo W X i' = R.set k (l ++ sp ++ s)) := by show _ = _; rw [HNX.out, put_fit hkR hl.symm (by omega), ByteArray.append_assoc]
                  clear hNk hn8 hc8 hl hkR hq1 hq2 hfit
                  go_wp2_with fail
                  go_cut [86] from 69 to 85 (fun z wx => z = .bool true ∧ RMem w wx (.slice (some ⟨g8, 0, none⟩) N cap8) N R)
                  case first =>
                    go_quiet (fail)
                    go_wp2_with fail
                    go_meet
                    exact ⟨by simp [*], HQ.out.call (by (repeat' (first | assumption | exact Below.refl _ _ | exact Below.size (by assumption) | (refine Below.setCell ?_ ?_ _) | (refine Below.alloc ?_ ?_ _) | (refine Below.drew ?_) | (refine below_drewN ?_ _) | (refine Below.trans ?_ (Below.mono ‹Below _ _ _› ?_)) | omega | (simp; done) | (simp; omega) | (simp at *; omega))))⟩
                  case rest =>
                    obtain ⟨rfl, hmx⟩ := hcut
                    generalize wc = wx at hmx ⊢
                    have HMX := Lib.hid hmx
                    have hXx := HXC.out _ hmx.2
                    obtain ⟨c9, f9, l9⟩ := HCL.out _ hmx
                    clear hmx c8 hX
                    go_wp2_with fail
                    have lim1 : ¬ 9223372036854775807 < l.size + 1 := by omega
                    have lim2 : ¬ 9223372036854775807 < l.size + 1 + s.size := by omega
                    go_still_tail 13, (by kernel_rfl)
                    change wpList _ _ _ _ _ wx.drew
                    go_wp2_with fail
                    have HM7 := Lib.hid (HMX.out.drew.set (k := k) (x := l ++ sp ++ s))
                    go_roundw
                    case rel => exact ⟨i', N, R.set k (l ++ sp ++ s), HI', HN2.out.symm, by show N = _; rw [List.length_set]; exact HN.out, rfl, HSZ2, HM7⟩
                    case measure => exact HMS.out
                · have t9 : decide ((q2 : Int) ≤ W) = false := decide_eq_false hfit
                  have HN2 : Hid (rowsTo W X i' = R ++ [s]) := by show _ = _; rw [HNX.out, put_new hkR hl.symm (by omega)]
                  clear hNk hn8 hc8 hl hkR hq1 hq2 hfit
                  go_wp2_with fail
                  go_cut [86] from 69 to 85 (fun z wx => z = .bool false ∧ RMem w wx (.slice (some ⟨g8, 0, none⟩) N cap8) N R)
                  case first =>
                    go_quiet (fail)
                    go_wp2_with fail
                    go_meet
                    exact ⟨by simp [*], HQ.out.call (by (repeat' (first | assumption | exact Below.refl _ _ | exact Below.size (by assumption) | (refine Below.setCell ?_ ?_ _) | (refine Below.alloc ?_ ?_ _) | (refine Below.drew ?_) | (refine below_drewN ?_ _) | (refine Below.trans ?_ (Below.mono ‹Below _ _ _› ?_)) | omega | (simp; done) | (simp; omega) | (simp at *; omega))))⟩
                  case rest =>
                    obtain ⟨rfl, hmx⟩ := hcut
                    generalize wc = wx at hmx ⊢
                    have HMX := Lib.hid hmx
                    have hXx := HXC.out _ hmx.2
                    clear hmx c8 hX
                    go_wp2_with (first
                      | (at_builtin; refine wpList_append_own_at _ ?pba (.tmp 100) (.tmp 105) 22 ?pbb (w.heap.size) 9 SI0 (.string ByteArray.empty) 1 16 Tryd.underlying22 SI1.out SI2.out SI3.out SI4.out ?pbc ?pbd (.slice (some ⟨g8, 0, none⟩) N cap8) (N) (sc R) ?pbe (HMX.out.1.alloc _) (⟨wx.heap.size, 0, none⟩) (1) (1) ([.string s]) ?pbg (rfl) (World.news_of_block (cs := #[.string s]) (t := 9) (fr := (0, 0)) (heap_alloc_new _ _)) ((by simp [Value.oneCell'])) (h63_s HN300.out) (hby_s HN300.out) (Nat.le_trans HMX.out.2.size (by simp)) ?pbh
                         case pba => exact rfl
                         case pbb => exact rfl
                         case pbc => exact rfl
                         case pbd => decide
                         case pbe => exact rfl
                         case pbg => exact rfl
                         intro v2 w7 hown2 hgrow2 hnil2 hat2
                         have HM7 := Lib.hid (HMX.out.app hown2 hgrow2)
                         clear hown2 hgrow2 hnil2 hat2))
                    go_roundw
                    case rel => exact ⟨i', N + 1, R ++ [s], HI', HN2.out.symm, by show N + 1 = _; rw [List.length_append, HN.out]; rfl, rfl, HSZ2, HM7⟩
                    case measure => exact HMS.out
          · have hin : i = n := by have := Hi.out; omega
            have T0 : decide ((i : Int) < (n : Int)) = false := by simp <;> omega
            have T0' : decide (i < n) = false := decide_eq_false hlt
            have HRS : Hid (RowsIs W n X R 0) := by
              have h := RowsIs.ok HWB.out HG.out (by have h := HSZ.out; rw [hin] at h; exact h)
              rw [← hin, ← HR.out, hin] at h
              exact h
            clear hlt hin
            go_wp2_with fail
            go_ret2
            exact HQ.out.post (Below.refl _ _) HN.out HN300.out HRS.out
end Go.Proofs.YtlccoabcialppaaDoor

/- slices.Clone, Grow, Concat and Reverse at states. -/
import Derived.Test.YtfgakaielfekoaaGreatDoorSmp
import Derived.BigRegion
import Derived.Lib.AppendZerosOnto
import Derived.Lib.AppendZeros
import Derived.Lib.SliceRun
import Derived.Lib.Walk
namespace Go.Proofs.YtfgakaielfekoaaGreatDoor
open Go.RowKit
set_option linter.unusedVariables false
set_option linter.unusedSimpArgs false

set_option maxHeartbeats 2000000 in
set_option maxRecDepth 100000 in
theorem sgrow (n : Nat) (h0 : 0 < n) (h1 : n ≤ 2000) (w : World) :
    Calls Tryz.prog 63 #[.slice none 0 0, .int .i64 (n : Int)] w fun e w' => ∃ C : Nat, e = .returned (.slice (some ⟨w.heap.size, 0, none⟩) 0 C) ∧ w'.ownsRow w.heap.size 49 4 (.slice (some ⟨w.heap.size, 0, none⟩) 0 C) 0 [] ∧ Below w.heap.size w w' := by
  obtain ⟨i0, hi0, hz0, hs0, hby⟩ := info_parts1 infoSt
  have hold : (Builtin.firstCells i0.size 0 (.slice none 0 0)).run Tryz.prog w.drew = .ok (#[] : Array Value) w.drew := run_firstCells_none w.drew i0.size 0 0 0
  have hge := grownCap_ge w n 0 49
  have hle := grownCap_le_maxLen w n 0 49 (by unfold maxLen; omega)
  have hr : ∀ ty, (Builtin.append_ #[42, 3] ty #[.slice none 0 0, .int .i64 (n : Int)]).run Tryz.prog w =
      .ok (.slice (some ⟨w.heap.size, 0, none⟩) n (grownCap w n 0 49)) (w.drew.alloc (.cells (#[] ++ Builtin.zeroCells (Value.agg #[.slice none 0 0, .slice none 0 0, .slice none 0 0, .slice none 0 0]).cells n ++ Builtin.zeroCells (Value.agg #[.slice none 0 0, .slice none 0 0, .slice none 0 0, .slice none 0 0]).cells (grownCap w n 0 49 - n)) 49)) := fun ty => by
    have h := Lib.run_append_grow_zeros w 42 3 ty 49 i0 (.agg #[.slice none 0 0, .slice none 0 0, .slice none 0 0, .slice none 0 0]) .i64 .i64 Tryz.underlying42 Tryz.underlying3 hi0 hz0 none 0 0 [] hold n h0 (by omega) (by omega) (by omega) (by rw [hby]; omega) (growslice_fits (by omega) (by rw [hby]; omega))
    rw [Nat.zero_add] at h
    exact h
  obtain ⟨C, hC⟩ : ∃ C, C = grownCap w n 0 49 := ⟨_, rfl⟩
  rw [← hC] at hr hge hle
  have HO : Hid (∀ u, u = (w.drew.alloc (.cells (#[] ++ Builtin.zeroCells (Value.agg #[.slice none 0 0, .slice none 0 0, .slice none 0 0, .slice none 0 0]).cells n ++ Builtin.zeroCells (Value.agg #[.slice none 0 0, .slice none 0 0, .slice none 0 0, .slice none 0 0]).cells (C - n)) 49)) → u.ownsRow w.heap.size 49 4 (.slice (some ⟨w.heap.size, 0, none⟩) 0 C) 0 [] ∧ Below w.heap.size w u) := by
    rintro u rfl
    refine ⟨⟨rfl, .inr ⟨w.heap.size, C, _, rfl, Nat.le_refl _, heap_alloc_new w.drew _, Nat.zero_le _, hle, ?_, rfl⟩⟩, (Below.refl _ w).drew.alloc (Nat.le_refl _) _⟩
    simp only [Array.size_append, size_zeroCells]
    have : (Value.agg #[.slice none 0 0, .slice none 0 0, .slice none 0 0, .slice none 0 0]).cells.size = 4 := rfl
    rw [this]
    simp
    omega
  have h2 : wrap64 ((n : Int) - 0) = (n : Int) := by unfold wrap64; omega
  have h3 : IntKind.i64.wrap ((n : Int) - 0) = (n : Int) := by rw [IntKind.wrap_i64]; omega
  have h3' : IntKind.i64.wrap (n : Int) = (n : Int) := by rw [IntKind.wrap_i64]; omega
  have h4 : decide ((0 : Int) < (n : Int)) = true := by simp; omega
  have h5 : decide (0 < n) = true := decide_eq_true h0
  have h6 : decide ((n : Int) < 0) = false := by simp
  have HL := Lib.hid hle
  have hr2 := Lib.hid hr
  have hC0 : (0 : Int) ≤ (C : Int) := by omega
  clear hold hge hle hC hr h0 h1
  go_enter Tryz.func63, Tryz.ntmps63
  go_wp2_with (at_builtin; refine Lib.wpList_append_run _ rfl _ _ _ _ rfl _ _ rfl rfl _ _ (hr2.out _) ?_)
  go_ret
  exact ⟨C, rfl, HO.out _ (by simp; rfl)⟩
set_option maxRecDepth 100000 in
set_option maxHeartbeats 4000000 in
/-- Clone of some states, one at the least. -/
theorem sclone (b off s c : Nat) (S : Sts) (h1 : 0 < s) (h2 : s ≤ 2000) (w : World) (hT : StAt w b off s S) :
    Calls Tryz.prog 19 #[.slice (some ⟨b, off, none⟩) s c] w fun e w' => ∃ g cap : Nat, e = .returned (.slice (some ⟨g, 0, none⟩) s cap) ∧ w'.ownsRow w.heap.size 49 4 (.slice (some ⟨g, 0, none⟩) s cap) s (stc S (fun k => k) s) ∧ Below w.heap.size w w' := by
  have HT := Lib.hid hT
  have H1 := Lib.hid h1
  have H2 := Lib.hid h2
  have HO0 : Hid ((w.alloc (.cells #[] 49)).ownsRow w.heap.size 49 4 (.slice (some ⟨w.heap.size, 0, none⟩) 0 0) 0 []) := World.ownsRow_lit w #[] 0 (Nat.le_refl _) (by unfold maxLen; omega) rfl
  have HB0 : Hid (Below w.heap.size w (w.alloc (.cells #[] 49))) := (Below.refl _ w).alloc (Nat.le_refl _) _
  have hb := hT.1
  have HB := Lib.hid hb
  obtain ⟨SI0, si0, sz0, sz1, sz2⟩ := info_parts1 infoSt
  have SI1 := Lib.hid si0
  have SI2 := Lib.hid sz0
  have SI3 := Lib.hid sz1
  have SI4 := Lib.hid sz2
  clear si0 sz0 sz1 sz2

  have hnil : ∀ w, (binOp .eql 42 (.slice (some ⟨b, off, none⟩) s c) (.slice none 0 0)).run Tryz.prog w = .ok (.bool false) w := fun w => by kernel_rfl
  clear hT h1 h2
  go_enter Tryz.func19, Tryz.ntmps19
  go_wp2_with (first
    | (at_builtin; refine wpList_append_own_at _ ?scaa (.tmp 5) (.tmp 6) 42 ?scab (w.heap.size) 49 SI0 (.agg #[.slice none 0 0, .slice none 0 0, .slice none 0 0, .slice none 0 0]) 4 96 Tryz.underlying42 SI1.out SI2.out SI3.out SI4.out ?scac ?scad (.slice (some ⟨w.heap.size, 0, none⟩) 0 0) (0) ([]) ?scae (HO0.out) (⟨b, off, none⟩) (s) (c) (stc S (fun k => k) s) ?scag (by rw [stc_len]) (st_news (⟨Nat.lt_of_lt_of_le HT.out.1 HB0.out.size, fun k hk => ⟨(HT.out.2 k hk).1.below HB0.out HB.out, (HT.out.2 k hk).2.below (Nat.le_refl _) HB0.out⟩⟩)) (stc_cell _ _) (h63_st (Nat.zero_le _) H2.out) (hby_st (Nat.zero_le _) H2.out) (HB0.out.size) ?scah
       case scaa => exact rfl
       case scab => exact rfl
       case scac => exact rfl
       case scad => decide
       case scae => exact rfl
       case scag => exact rfl
       intro v2 w4 hown2 hgrow2 hnil2 hat2
       obtain ⟨g2, cap2, rfl, hb2, hl2⟩ := hown2.form (by have := H1.out; omega)
       rw [Nat.zero_add, List.nil_append] at hown2
       rw [Nat.zero_add]
       have HM2 := Lib.hid (And.intro hown2 (below_own HO0.out HB0.out hgrow2))
       clear hown2 hgrow2 hnil2 hat2))
  go_ret
  exact ⟨g2, cap2, rfl, HM2.out.1, HM2.out.2⟩
/-- The places of Reverse at a step: what stands there behind it. -/
def rvp (s i k : Nat) : Nat := if k < i ∨ s - 1 - k < i then s - 1 - k else k
/-- The cells of states at given places, as a function of the cell. -/
def stF (S : Sts) (f : Nat → Nat) (c : Nat) : Value := ((S.vals (f (c / 4)))[c % 4]?).getD undef
theorem stc_fn (S : Sts) (f : Nat → Nat) (n : Nat) : stc S f n = (List.range (n * 4)).map (stF S f) := by
  apply List.ext_getElem?
  intro c
  by_cases hc : c < n * 4
  · have h := stc_at S f (n := n) (k := c / 4) (j := c % 4) (by omega) (by omega)
    rw [show c / 4 * 4 + c % 4 = c by omega] at h
    rw [h, List.getElem?_map, List.getElem?_range hc]
    show _ = some (stF S f c)
    unfold stF
    have : c % 4 < (S.vals (f (c / 4))).length := by rw [vals_len]; omega
    rw [List.getElem?_eq_getElem this]
    rfl
  · rw [List.getElem?_eq_none (by rw [stc_len]; omega), List.getElem?_eq_none (by simp; omega)]
theorem map_set (F : Nat → Value) (N c : Nat) (v : Value) : ((List.range N).map F).set c v = (List.range N).map fun x => if x = c then v else F x := by
  apply List.ext_getElem?
  intro x
  by_cases hx : x < N
  · rw [List.getElem?_set, List.getElem?_map, List.getElem?_range hx, List.getElem?_map, List.getElem?_range hx]
    by_cases e : c = x
    · subst e; simp [hx]
    · have e' : ¬ x = c := fun h => e h.symm
      simp [e, e']
  · rw [List.getElem?_eq_none (by simp; omega), List.getElem?_eq_none (by simp; omega)]
theorem stF_at (S : Sts) (f : Nat → Nat) (k j : Nat) (hj : j < 4) : stF S f (k * 4 + j) = ((S.vals (f k))[j]?).getD undef := by
  unfold stF
  rw [show (k * 4 + j) / 4 = k by omega, show (k * 4 + j) % 4 = j by omega]
/-- One step of Reverse, on the cells. -/
theorem rv_step (S : Sts) {s i j : Nat} (hj : j = s - 1 - i) (hij : i < j) :
    ((((((((stc S (rvp s i) s).set (i * 4) (.slice (S.VA j) (S.VN j) (S.VC j))).set (i * 4 + 1) (.slice (S.PA j) (S.PN j) (S.PC j))).set (i * 4 + 2) (.slice (S.SA j) (S.SN j) (S.SC j))).set (i * 4 + 3) (.slice (S.OA j) (S.ON j) (S.OC j))).set (j * 4) (.slice (S.VA i) (S.VN i) (S.VC i))).set (j * 4 + 1) (.slice (S.PA i) (S.PN i) (S.PC i))).set (j * 4 + 2) (.slice (S.SA i) (S.SN i) (S.SC i))).set (j * 4 + 3) (.slice (S.OA i) (S.ON i) (S.OC i)) = stc S (rvp s (i + 1)) s := by
  rw [stc_fn, stc_fn, map_set, map_set, map_set, map_set, map_set, map_set, map_set, map_set]
  apply List.map_congr_left
  intro c hc
  have hc := List.mem_range.1 hc
  have hcs : c / 4 < s := by omega
  have e : c = c / 4 * 4 + c % 4 := by omega
  generalize hk : c / 4 = k at *
  generalize hr : c % 4 = r at *
  have hr4 : r < 4 := by omega
  subst e
  rw [stF_at S (rvp s (i + 1)) k r hr4, stF_at S (rvp s i) k r hr4]
  by_cases h1 : k = i
  · subst h1
    have e2 : rvp s (k + 1) k = j := by unfold rvp; rw [if_pos (by omega)]; omega
    rw [e2]
    have : r = 0 ∨ r = 1 ∨ r = 2 ∨ r = 3 := by omega
    have g0 : ∀ q, ¬ (k * 4 + r = j * 4 + q ∧ q < 4) := fun q => by omega
    rcases this with rfl | rfl | rfl | rfl
    · rw [if_neg (by omega), if_neg (by omega), if_neg (by omega), if_neg (by omega), if_neg (by omega), if_neg (by omega), if_neg (by omega), if_pos (by omega)]; rfl
    · rw [if_neg (by omega), if_neg (by omega), if_neg (by omega), if_neg (by omega), if_neg (by omega), if_neg (by omega), if_pos (by omega)]; rfl
    · rw [if_neg (by omega), if_neg (by omega), if_neg (by omega), if_neg (by omega), if_neg (by omega), if_pos (by omega)]; rfl
    · rw [if_neg (by omega), if_neg (by omega), if_neg (by omega), if_neg (by omega), if_pos (by omega)]; rfl
  · by_cases h2 : k = j
    · subst h2
      have e2 : rvp s (i + 1) k = i := by unfold rvp; rw [if_pos (by omega)]; omega
      rw [e2]
      have : r = 0 ∨ r = 1 ∨ r = 2 ∨ r = 3 := by omega
      rcases this with rfl | rfl | rfl | rfl
      · rw [if_neg (by omega), if_neg (by omega), if_neg (by omega), if_pos (by omega)]; rfl
      · rw [if_neg (by omega), if_neg (by omega), if_pos (by omega)]; rfl
      · rw [if_neg (by omega), if_pos (by omega)]; rfl
      · rw [if_pos (by omega)]; rfl
    · have e2 : rvp s (i + 1) k = rvp s i k := by
        unfold rvp
        by_cases g : k < i ∨ s - 1 - k < i
        · rw [if_pos g, if_pos (by omega)]
        · rw [if_neg g, if_neg (by omega)]
      rw [if_neg (by omega), if_neg (by omega), if_neg (by omega), if_neg (by omega), if_neg (by omega), if_neg (by omega), if_neg (by omega), if_neg (by omega), e2]
theorem rv_none (S : Sts) (s : Nat) : stc S (rvp s 0) s = stc S (fun k => k) s := by
  rw [stc_fn, stc_fn]
  apply List.map_congr_left
  intro c _
  unfold stF rvp
  rw [if_neg (by omega)]
theorem rv_all (S : Sts) {s i : Nat} (h : s ≤ 2 * i + 1) : stc S (rvp s i) s = stc S (fun k => s - 1 - k) s := by
  rw [stc_fn, stc_fn]
  apply List.map_congr_left
  intro c hc
  have hc := List.mem_range.1 hc
  unfold stF rvp
  by_cases g : c / 4 < i ∨ s - 1 - c / 4 < i
  · rw [if_pos g]
  · rw [if_neg g]
    show _ = ((S.vals (s - 1 - c / 4))[c % 4]?).getD undef
    rw [show s - 1 - c / 4 = c / 4 by omega]
set_option maxRecDepth 100000 in
set_option maxHeartbeats 8000000 in
/-- Reverse of some states that a call owns. -/
theorem srev (g s cap : Nat) (S : Sts) (w0 w : World) (h1 : 0 < s) (h2 : s ≤ 2000) (h : w.ownsRow w0.heap.size 49 4 (.slice (some ⟨g, 0, none⟩) s cap) s (stc S (fun k => k) s)) (hb : Below w0.heap.size w0 w) :
    Calls Tryz.prog 20 #[.slice (some ⟨g, 0, none⟩) s cap] w fun e w' => e = .returned (.tuple #[]) ∧ w'.ownsRow w0.heap.size 49 4 (.slice (some ⟨g, 0, none⟩) s cap) s (stc S (fun k => s - 1 - k) s) ∧ Below w0.heap.size w0 w' := by
  have H2 := Lib.hid h2
  have H1 := Lib.hid h1
  rw [← rv_none] at h
  have HO := Lib.hid h
  have HB := Lib.hid hb
  obtain ⟨q, hq⟩ : ∃ q, q = s - 1 := ⟨_, rfl⟩
  have x0 : IntKind.i64.wrap ((s : Int) - 1) = (q : Int) := by rw [IntKind.wrap_i64]; omega
  have HQ := Lib.hid hq
  clear h1 h2 h hb hq
  go_enter Tryz.func20, Tryz.ntmps20
  go_wp2_with fail
  go_loopw [2, 3] (fun u v wr => ∃ (i j : Nat), Hid (i + j + 1 = s ∧ 2 * i ≤ s) ∧ u = .int .i64 i ∧ v = .int .i64 j ∧ Hid (wr.ownsRow w0.heap.size 49 4 (.slice (some ⟨g, 0, none⟩) s cap) s (stc S (rvp s i) s)) ∧ Hid (Below w0.heap.size w0 wr)) (fun u _ _ => s - (RowKit.intOf u).toNat)
  case atStart => exact ⟨0, q, by show 0 + q + 1 = s ∧ 2 * 0 ≤ s; have := HQ.out; have := H1.out; omega, rfl, rfl, HO, HB⟩
  case round =>
    obtain ⟨i, j, Hi, rfl, rfl, HOw, HBw⟩ := hrel
    by_cases hlt : i < j
    · have T0 : decide ((i : Int) < (j : Int)) = true := by simp <;> omega
      have T0' : decide (i < j) = true := decide_eq_true hlt
      have hij := Hi.out
      obtain ⟨i', hi'⟩ : ∃ z, z = i + 1 := ⟨_, rfl⟩
      obtain ⟨j', hj'⟩ : ∃ z, z = j - 1 := ⟨_, rfl⟩
      have x1 : IntKind.i64.wrap ((i : Int) + 1) = (i' : Int) := by have := H2.out; rw [IntKind.wrap_i64]; omega
      have x2 : IntKind.i64.wrap ((j : Int) - 1) = (j' : Int) := by have := H2.out; rw [IntKind.wrap_i64]; omega
      have HI' : Hid (i' + j' + 1 = s ∧ 2 * i' ≤ s) := by show _ ∧ _; omega
      have HMS : Hid (s - (RowKit.intOf (Value.int .i64 (i' : Int))).toNat < s - (RowKit.intOf (Value.int .i64 (i : Int))).toNat) := by show _ < _; simp [RowKit.intOf]; omega
      have k0 : (0 : Int) ≤ (i : Int) := by omega
      have k1 : (i : Int) < (s : Int) := by omega
      have k2 : (0 : Int) ≤ (j : Int) := by omega
      have k3 : (j : Int) < (s : Int) := by omega
      have e1 : rvp s i i = i := by unfold rvp; rw [if_neg (by omega)]
      have e2 : rvp s i j = j := by unfold rvp; rw [if_neg (by omega)]
      have ci : ∀ q, q < 4 → wr.cell? ⟨g, i * 4 + q, none⟩ = (S.vals i)[q]? := fun q hq => by rw [HOw.out.cellAt (i * 4 + q) (by omega), stc_at S (rvp s i) (by omega) hq, e1]
      have cj : ∀ q, q < 4 → wr.cell? ⟨g, j * 4 + q, none⟩ = (S.vals j)[q]? := fun q hq => by rw [HOw.out.cellAt (j * 4 + q) (by omega), stc_at S (rvp s i) (by omega) hq, e2]
      have c0 := ci 0 (by omega)
      have c1 := ci 1 (by omega)
      have c2 := ci 2 (by omega)
      have c3 := ci 3 (by omega)
      have d0 := cj 0 (by omega)
      have d1 := cj 1 (by omega)
      have d2 := cj 2 (by omega)
      have d3 := cj 3 (by omega)
      simp only [Nat.add_zero] at c0 d0
      simp only [Sts.vals] at c0 c1 c2 c3 d0 d1 d2 d3
      have z0 := HOw.out.frozenAt (i * 4)
      have z1 := HOw.out.frozenAt (i * 4 + 1)
      have z2 := HOw.out.frozenAt (i * 4 + 2)
      have z3 := HOw.out.frozenAt (i * 4 + 3)
      have y0 := HOw.out.frozenAt (j * 4)
      have y1 := HOw.out.frozenAt (j * 4 + 1)
      have y2 := HOw.out.frozenAt (j * 4 + 2)
      have y3 := HOw.out.frozenAt (j * 4 + 3)
      have hg := (HOw.out.lt g rfl).2
      have RS := rv_step S (s := s) (i := i) (j := j) (by omega) hlt
      have s1 := HOw.out.stored (i * 4) (.slice (S.VA j) (S.VN j) (S.VC j))
      have s2 := s1.1.stored (i * 4 + 1) (.slice (S.PA j) (S.PN j) (S.PC j))
      have s3 := s2.1.stored (i * 4 + 2) (.slice (S.SA j) (S.SN j) (S.SC j))
      have s4 := s3.1.stored (i * 4 + 3) (.slice (S.OA j) (S.ON j) (S.OC j))
      have s5 := s4.1.stored (j * 4) (.slice (S.VA i) (S.VN i) (S.VC i))
      have s6 := s5.1.stored (j * 4 + 1) (.slice (S.PA i) (S.PN i) (S.PC i))
      have s7 := s6.1.stored (j * 4 + 2) (.slice (S.SA i) (S.SN i) (S.SC i))
      have s8 := s7.1.stored (j * 4 + 3) (.slice (S.OA i) (S.ON i) (S.OC i))
      have HB8 := below_own s7.1 (below_own s6.1 (below_own s5.1 (below_own s4.1 (below_own s3.1 (below_own s2.1 (below_own s1.1 (below_own HOw.out HBw.out s1.2) s2.2) s3.2) s4.2) s5.2) s6.2) s7.2) s8.2
      have HO8 := s8.1
      rw [RS, show i + 1 = i' from hi'.symm] at HO8
      have HO9 := Lib.hid HO8
      have HB9 := Lib.hid HB8
      clear ci cj e1 e2 RS s1 s2 s3 s4 s5 s6 s7 s8 HO8 HB8 hij hi' hj' HOw HBw HO HB
      go_upto_region 3 with fail
      go_region
      all_goals go_wp2_with fail
      all_goals go_roundw
      all_goals (first
        | (case rel => exact ⟨i', j', HI', rfl, rfl, HO9.out.drew, HB9.out.drew⟩)
        | (case measure => exact HMS.out))
    · have T0 : decide ((i : Int) < (j : Int)) = false := by simp <;> omega
      have T0' : decide (i < j) = false := decide_eq_false hlt
      have RA := rv_all S (s := s) (i := i) (by have := Hi.out; omega)
      have HO8 := HOw.out
      rw [RA] at HO8
      have HO9 := Lib.hid HO8
      clear hlt RA HO8
      go_wp2_with fail
      refine bodyPost_end (v := .tuple #[]) (by simp [results, Tryz.results20, go_sem]) rfl ⟨rfl, HO9.out, HBw.out⟩
/-- What Concat of the same states twice answers. -/
def SCatPost (w : World) (s : Nat) (S : Sts) (e : Ending) (w' : World) : Prop := ∃ h cap N : Nat, N = s + s ∧ e = .returned (.slice (some ⟨h, 0, none⟩) N cap) ∧ w'.ownsRow w.heap.size 49 4 (.slice (some ⟨h, 0, none⟩) N cap) N (stc S (fun k => if k < s then k else k - s) N) ∧ Below w.heap.size w w'
set_option maxRecDepth 100000 in
set_option maxHeartbeats 4000000 in
theorem sconcat (g b off s c : Nat) (S : Sts) (h1 : 0 < s) (h2 : s ≤ 1000) (w : World) (hT : StAt w b off s S) (hg : g < w.heap.size) (c0 : w.cell? ⟨g, 0, none⟩ = some (.slice (some ⟨b, off, none⟩) s c)) (c1 : w.cell? ⟨g, 1, none⟩ = some (.slice (some ⟨b, off, none⟩) s c)) :
    Calls Tryz.prog 21 #[.slice (some ⟨g, 0, none⟩) 2 2] w (SCatPost w s S) := by
  obtain ⟨N, hN⟩ : ∃ N, N = s + s := ⟨_, rfl⟩
  have HN := Lib.hid hN
  have SG := Lib.hid fun w => sgrow N (by omega) (by omega) w
  have HT := Lib.hid hT
  have H2 : Hid (s ≤ 2000) := by show s ≤ 2000; omega
  have H1 : Hid (0 < s) := h1
  have HC0 := Lib.hid c0
  have HC1 := Lib.hid c1
  have a1 : IntKind.i64.wrap (s : Int) = (s : Int) := by rw [IntKind.wrap_i64]; omega
  have a2 : IntKind.i64.wrap ((s : Int) + (s : Int)) = (N : Int) := by rw [IntKind.wrap_i64]; omega
  have hbb := hT.1
  have HSS : Hid (stc S (fun k => if k < s then k else k - s) N = stc S (fun k => k) s ++ stc S (fun k => k) s) := by show _ = _; rw [hN]; exact stc_two S s s (Nat.le_refl _)
  have HNW : Hid (∀ wr, Below w.heap.size w wr → ∀ j u, (stc S (fun k => k) s)[j]? = some u → wr.cell? ((⟨b, off, none⟩ : Addr).add j) = some u) := fun wr hb => st_news ⟨Nat.lt_of_lt_of_le HT.out.1 hb.size, fun k hk => ⟨(HT.out.2 k hk).1.below hb hbb, (HT.out.2 k hk).2.below (Nat.le_refl _) hb⟩⟩
  clear h1 h2 hN hT
  go_enter Tryz.func21, Tryz.ntmps21
  go_wp2_with fail
  go_loop [3, 11] (fun u v => (u = .int .i64 0 ∧ v = .int .i64 0) ∨ (u = .int .i64 s ∧ v = .int .i64 1) ∨ (u = .int .i64 N ∧ v = .int .i64 2)) (fun _ v => 2 - (intOf v).toNat)
  case atStart => exact .inl ⟨rfl, rfl⟩
  case round =>
    rcases hrel with ⟨rfl, rfl⟩ | ⟨rfl, rfl⟩ | ⟨rfl, rfl⟩
    · go_wp2_with fail
      go_round
      case rel => exact .inr (.inl ⟨rfl, rfl⟩)
      case measure => simp [intOf]
    · go_wp2_with fail
      go_round
      case rel => exact .inr (.inr ⟨rfl, rfl⟩)
      case measure => simp [intOf]
    · go_wp2_with (first | (go_at_call 63; (with_reducible refine (SG.out _).mono ?_); rintro e w1 ⟨C, rfl, hown, hb1⟩))
      have HOW := Lib.hid hown
      have HBW := Lib.hid hb1
      obtain ⟨SI0, si0, sz0, sz1, sz2⟩ := info_parts1 infoSt
      have SI1 := Lib.hid si0
      have SI2 := Lib.hid sz0
      have SI3 := Lib.hid sz1
      have SI4 := Lib.hid sz2
      clear si0 sz0 sz1 sz2

      clear hown hb1 c0 c1
      go_loopw [6, 27] (fun u v wr => ∃ i h C K : Nat, ∃ xs : List Value, Hid ((i = 0 ∧ 0 = K ∧ [] = xs) ∨ (i = 1 ∧ s = K ∧ stc S (fun k => k) s = xs) ∨ (i = 2 ∧ N = K ∧ stc S (fun k => k) s ++ stc S (fun k => k) s = xs)) ∧ u = .slice (some ⟨h, 0, none⟩) K C ∧ v = .int .i64 i ∧ Hid (wr.ownsRow w.heap.size 49 4 (.slice (some ⟨h, 0, none⟩) K C) K xs ∧ Below w.heap.size w wr)) (fun _ v _ => 2 - (intOf v).toNat)
      case atStart => exact ⟨0, _, C, 0, [], .inl ⟨rfl, rfl, rfl⟩, rfl, rfl, ⟨HOW.out, HBW.out⟩⟩
      case round =>
        obtain ⟨i, h, C, K, xs, Hi, rfl, rfl, HM⟩ := hrel
        have c0 := (HM.out.2.cell (p := ⟨g, 0, none⟩) hg).trans HC0.out
        have c1 := (HM.out.2.cell (p := ⟨g, 1, none⟩) hg).trans HC1.out
        rcases Hi.out with ⟨rfl, rfl, rfl⟩ | ⟨rfl, rfl, rfl⟩ | ⟨rfl, rfl, rfl⟩
        · go_wp2_with (first
            | (at_builtin; refine wpList_append_own_at _ ?cnaa (.tmp 31) (.tmp 32) 42 ?cnab (w.heap.size) 49 SI0 (.agg #[.slice none 0 0, .slice none 0 0, .slice none 0 0, .slice none 0 0]) 4 96 Tryz.underlying42 SI1.out SI2.out SI3.out SI4.out ?cnac ?cnad (.slice (some ⟨h, 0, none⟩) 0 C) (0) ([]) ?cnae (HM.out.1) (⟨b, off, none⟩) (s) (c) (stc S (fun k => k) s) ?cnag (by rw [stc_len]) (HNW.out _ HM.out.2) (stc_cell _ _) (h63_st (Nat.zero_le _) H2.out) (hby_st (Nat.zero_le _) H2.out) (HM.out.2.size) ?cnah
               case cnaa => exact rfl
               case cnab => exact rfl
               case cnac => exact rfl
               case cnad => decide
               case cnae => exact rfl
               case cnag => exact rfl
               intro v2 w4 hown2 hgrow2 hnil2 hat2
               obtain ⟨g2, cap2, rfl, hb2, hl2⟩ := hown2.form (by have := H1.out; omega)
               rw [Nat.zero_add, List.nil_append] at hown2
               rw [Nat.zero_add]
               have HM2 := Lib.hid (And.intro hown2 (below_own HM.out.1 HM.out.2 hgrow2))
               clear hown2 hgrow2 hnil2 hat2))
          go_roundw
          case rel => exact ⟨1, g2, cap2, s, _, .inr (.inl ⟨rfl, rfl, rfl⟩), rfl, rfl, HM2⟩
          case measure => simp [intOf]
        · go_wp2_with (first
            | (at_builtin; refine wpList_append_own_at _ ?cnba (.tmp 31) (.tmp 32) 42 ?cnbb (w.heap.size) 49 SI0 (.agg #[.slice none 0 0, .slice none 0 0, .slice none 0 0, .slice none 0 0]) 4 96 Tryz.underlying42 SI1.out SI2.out SI3.out SI4.out ?cnbc ?cnbd (.slice (some ⟨h, 0, none⟩) s C) (s) (stc S (fun k => k) s) ?cnbe (HM.out.1) (⟨b, off, none⟩) (s) (c) (stc S (fun k => k) s) ?cnbg (by rw [stc_len]) (HNW.out _ HM.out.2) (stc_cell _ _) (h63_st H2.out H2.out) (hby_st H2.out H2.out) (HM.out.2.size) ?cnbh
               case cnba => exact rfl
               case cnbb => exact rfl
               case cnbc => exact rfl
               case cnbd => decide
               case cnbe => exact rfl
               case cnbg => exact rfl
               intro v2 w4 hown2 hgrow2 hnil2 hat2
               obtain ⟨g2, cap2, rfl, hb2, hl2⟩ := hown2.form (by have := H1.out; omega)
               rw [← HN.out] at hown2
               rw [← HN.out]
               have HM2 := Lib.hid (And.intro hown2 (below_own HM.out.1 HM.out.2 hgrow2))
               clear hown2 hgrow2 hnil2 hat2))
          go_roundw
          case rel => exact ⟨2, g2, cap2, N, _, .inr (.inr ⟨rfl, rfl, rfl⟩), rfl, rfl, HM2⟩
          case measure => simp [intOf]
        · have HF : Hid (SCatPost w s S (.returned (.slice (some ⟨h, 0, none⟩) N C)) wr) := ⟨h, C, N, HN.out, rfl, by rw [HSS.out]; exact HM.out.1, HM.out.2⟩
          go_wp2_with fail
          go_ret
          exact HF.out
end Go.Proofs.YtfgakaielfekoaaGreatDoor

/- permit.Parse: a range over strings.Lines. -/
import Derived.Test.YtigocjhmgmhocaaGreatDoorPqP
import Derived.RangeFuncBox
import Derived.Maps.AppendAt
namespace Go.Proofs.YtigocjhmgmhocaaGreatDoor
open Go.RowKit Go.Shelf
set_option linter.unusedVariables false
set_option linter.unusedSimpArgs false
attribute [local go_sem] Oper.semAt_some

theorem pmis_ne {t : List UInt8} {L : List Pmr} {k : Nat} {e : Int} (h : PmIs t L k e) (he : e = 7) : k ≠ 0 := by
  cases h with
  | form => omega
  | arg => exact absurd he (by decide)
  | ok => exact absurd he (by decide)
theorem PqX.drew {w W : World} {s : ByteArray} (h : PqX w s W) : PqX w s W.drew := ⟨h.k, h.r0, h.r2, h.bl.drew⟩
theorem keeps_drew {B : Nat} {W A : World} (h : KeepsFrom B W A) : KeepsFrom B W A.drew := ⟨h.1, h.2⟩
theorem name_max {l : ByteArray} (h : nameB l.data.toList = true) : l.size ≤ maxLen := by
  have := (name_bytes h).2.2.2
  have h2 := size_lst l
  unfold maxLen; omega
set_option maxRecDepth 100000 in
set_option maxHeartbeats 4000000 in
theorem tparse (s : ByteArray) (hs : s.size ≤ 5000) (w : World) (hE : Env5 w) : Calls Tryz.prog 12 #[.string s] w (PqPost w s) := by
  have HE := Lib.hid hE
  have HSZ := Lib.hid hs
  have SP := Lib.hid fun w => tlines s w
  have T0 : decide ((262144 : Int) < (s.size : Int)) = false := decide_eq_false (by omega)
  have T0' : decide (262144 < s.size) = false := decide_eq_false (by omega)
  clear hE
  refine (callsIn_wide (n := 4)).1 ?_
  refine callsIn_of_wp_marks Tryz.func12 rfl trivial ?_ rfl
  simp only [Tryz.ntmps12, List.size_toArray, List.length_cons, List.length_nil, Nat.reduceAdd, Nat.reduceSub, Array.replicate_succ, Array.replicate_zero, List.push_toArray, List.append_toArray, List.nil_append, List.cons_append]
  gi_wp2_with (refine ⟨trivial, ?_⟩; gi_at_call 27; refine (callsIn_wide.2 (SP.out _)).mono ?_; rintro e w4 ⟨rfl, hsp, hb4, hz4⟩)
  simp only [World.size_alloc] at hsp hz4
  have hB3 : Below w.heap.size w ((((w.alloc (Obj.cells #[Value.slice none 0 0] 22)).alloc (Obj.cells #[.int .i64 0, .int .i64 0] 33)).alloc (Obj.cells #[Value.int IntKind.i64 0] 28)).alloc (Obj.cells #[Value.slice none 0 0] 22)) := ((((Below.refl _ w).alloc (Nat.le_refl _) _).alloc (by simp) _).alloc (by simp <;> omega) _).alloc (by simp <;> omega) _
  have hB4 : Below w.heap.size w w4 := hB3.trans (hb4.mono hB3.size)
  have g0 := ((((Blk.new w 22 #[.slice none 0 0]).alloc (Obj.cells #[.int .i64 0, .int .i64 0] 33)).alloc (Obj.cells #[Value.int IntKind.i64 0] 28)).alloc (Obj.cells #[Value.slice none 0 0] 22)).call hb4
  have g1 := (((Blk.new (w.alloc (Obj.cells #[Value.slice none 0 0] 22)) 33 #[.int .i64 0, .int .i64 0]).alloc (Obj.cells #[Value.int IntKind.i64 0] 28)).alloc (Obj.cells #[Value.slice none 0 0] 22)).call hb4
  have g2 := ((Blk.new ((w.alloc (Obj.cells #[Value.slice none 0 0] 22)).alloc (Obj.cells #[.int .i64 0, .int .i64 0] 33)) 28 #[.int .i64 0]).alloc (Obj.cells #[Value.slice none 0 0] 22)).call hb4
  have g3 := (Blk.new (((w.alloc (Obj.cells #[Value.slice none 0 0] 22)).alloc (Obj.cells #[.int .i64 0, .int .i64 0] 33)).alloc (Obj.cells #[Value.int IntKind.i64 0] 28)) 22 #[.slice none 0 0]).call hb4
  simp only [World.size_alloc] at g1 g2 g3
  have hz : w.heap.size + 5 ≤ w4.heap.size := by omega
  have PI0 : PqI w s [] w4 := ⟨g0, g1, g2, ⟨_, [], g3, World.ownsRow_nil _ _ _ _, rfl, fun _ h => absurd h (by simp), rfl⟩, hB4, hz⟩
  obtain ⟨i0, hi0, hz0, hz1, hz2⟩ := info_parts1 info26
  have HI0 := Lib.hid hi0
  have HZ0 := Lib.hid hz0
  have HZ1 := Lib.hid hz1
  have HZ2 := Lib.hid hz2
  have HHS := Lib.hid hz
  have hsp' := hsp
  clear hB3 hb4 g0 g1 g2 g3 hi0 hz0 hz1 hz2 hB4
  refine wpIn_range_own rfl (by omega) (gf := 45) (lb := #[.pointer (some ⟨w.heap.size + 1 + 1 + 1 + 1, 0, none⟩)]) rfl trivial (enters_of Tryz.func45 (by kernel_rfl) rfl) (encs := fun x : ByteArray => #[.string x]) (bs := w.heap.size + 1 + 1 + 1 + 1) (Kp := Kp1 (w.heap.size + 1 + 1 + 1 + 1)) (by omega) (lines_hands s (by omega) _ w4 hsp') Kp1.t
    (fun W l o' hl => ⟨by simp, World.putObj_heap_other (by omega)⟩) (fun _ => rfl) (PqI w s) (fun _ W => PqX w s W) (PqI.holds w s _ hz) (PqX.holds w s _ hz) PI0
    (fun x => { tmps := #[.string s, undef, .pointer (some ⟨w.heap.size, 0, none⟩), .pointer (some ⟨w.heap.size + 1, 0, none⟩), .pointer (some ⟨w.heap.size + 1 + 1, 0, none⟩), .pointer (some ⟨w.heap.size + 1 + 1 + 1, 0, none⟩), .string x, undef, undef, undef, undef, .string s, .int .i64 (s.size : Int), .bool false, undef, .string s, .func (.func 45) #[] #[.pointer (some ⟨w.heap.size + 1 + 1 + 1 + 1, 0, none⟩)], .string x, undef, undef, undef, undef, undef, undef, undef, undef, undef, undef, undef, undef, undef, undef, undef, undef, undef, undef, undef, undef, undef, undef, undef, undef, undef, undef, undef, undef, undef, undef, undef, undef, undef], defers := [] }) ?assign ?body ?done ?stop
  case assign =>
    intro l x W K hK
    gi_wp2
    exact hK
  case stop =>
    intro D pre W hD hi hK
    have HX := Lib.hid hi
    have HDD := Lib.hid hD
    clear hi hD
    gi_wp2
    have hlt := (Array.getElem?_eq_some_iff.1 hK).1
    have hDz := HHS.out
    have hDD := HDD.out
    refine ⟨by simp, .inl ⟨_, _, rfl, run_takeDeferred hK, ?_⟩⟩
    have hp : ∀ {j : Nat} {t : TypeId} {cs : Array Value}, j < w.heap.size + 5 → Blk W j t cs → Blk (W.putObj D (.deferred none)) j t cs := fun hj hb => (World.putObj_heap_other (by omega)).trans hb
    obtain ⟨k, hk1, hk2⟩ := HX.out.k
    have q0 := (hp (by omega) HX.out.r0).cell 0
    have q1 := (hp (by omega) hk1).cell 0
    have q2 := (hp (by omega) hk1).cell 1
    have q3 := (hp (by omega) HX.out.r2).cell 0
    simp only [List.getElem?_toArray, List.getElem?_cons_zero, List.getElem?_cons_succ] at q0 q1 q2 q3
    have hk0 : k ≠ 0 := pmis_ne hk2 rfl
    refine ⟨.tuple #[.slice none 0 0, .agg #[.int .i64 (k : Int), .int .i64 1], .int .i64 7], ?_, ⟨[], k, 7, none, 0, hk2, by unfold posV; rw [if_neg hk0]; rfl, ⟨by simp, .inl rfl⟩, HX.out.bl.grown (grownBy_putObj' W D _) HX.out.bl.size (fun k e => by cases e; omega)⟩⟩
    simp [results, Tryz.f12, go_sem, q0, q1, q2, q3]
  case done =>
    intro D W hD hi hK
    obtain ⟨v, L, hv, ho, hL, hf, hp⟩ := hi.tb
    rw [← hL] at ho
    obtain ⟨A0, cap0, rfl⟩ := own_shape ho
    rw [lines_lists] at hp
    have hn : L.length ≤ 500 := by
      have h1 := ptx_len hf
      rw [← pll_join, ← hp, rl_join] at h1
      have h2 := size_lst s
      omega
    have HPM : PmIn W A0 L.length (pmsL L) := by
      refine ⟨by omega, ?_⟩
      rcases ho.2 with ⟨hv', h0⟩ | ⟨g, cap, cur, hv', _⟩
      · exact .inl h0
      · cases hv'
        exact .inr ⟨g, 0, rfl, pms_of_pc ho⟩
    have HPF : Hid (PmIn W A0 L.length (pmsL L) ∧ ∀ g, A0 = some g → w.heap.size + 5 ≤ g.block) := ⟨HPM, fun g hg => by
      rcases ho.2 with ⟨hv', h0⟩ | ⟨g', cap, cur, hv', hge, _⟩
      · simp only [Value.slice.injEq] at hv'
        rw [hv'.1] at hg; cases hg
      · cases hv'; cases hg; exact hge⟩
    have HPS : PmS W A0 L.length (pmsL L) := ⟨HPM, fun k hk => ⟨name_max (hf _ (pmsL_mem hk)).nm, name_max (hf _ (pmsL_mem hk)).nd⟩⟩
    have T1 : decide ((1000 : Int) < (L.length : Int)) = false := decide_eq_false (by omega)
    have T1' : decide (1000 < L.length) = false := decide_eq_false (by omega)
    have hDz := HHS.out
    have HDD := Lib.hid hD
    have yw := hv.cell 0
    simp only [List.getElem?_toArray, List.getElem?_cons_zero] at yw
    by_cases ha : ∀ p, p ∈ L → okP p
    · have ST := Lib.hid (has_pinv A0 L.length cap0 (pmsL L) W (by omega) HPS false ⟨fun h => (by cases h), fun ⟨j, hj, hb⟩ => by
        have h1 : validB ((pmsL L).Nm j) ((pmsL L).Nd j) ((pmsL L).Ev j) ((pmsL L).Vol j) ((pmsL L).Tot j) = true := ha _ (pmsL_mem hj)
        have hb' : (!_) = true := hb
        rw [h1] at hb'; cases hb'⟩)
      have HIS : Hid (PmIs s.data.toList L 0 0) := .ok L hf hp ha
      clear ha HPS HPM hp hn hL
      gi_wp2_with (refine ⟨trivial, ?_⟩; gi_at_call 6; refine (callsIn_wide.2 ST.out).mono ?_; rintro e w5 ⟨rfl, hb5⟩; have HB5 := Lib.hid hb5; have y0 := (hi.r0.call hb5).cell 0; have y1 := (hi.r1.call hb5).cell 0; have y1' := (hi.r1.call hb5).cell 1; have y2 := (hi.r2.call hb5).cell 0; have y3 := (hv.call hb5).cell 0; have f0 := (hi.r0.call hb5).frozen 0; have f1 := (hi.r1.call hb5).frozen 0; have f1' := (hi.r1.call hb5).frozen 1; have f2 := (hi.r2.call hb5).frozen 0; have f3 := (hv.call hb5).frozen 0; simp only [List.getElem?_toArray, List.getElem?_cons_zero, List.getElem?_cons_succ] at y0 y1 y1' y2 y3; clear hb5)
      have HK5 : w5.heap[D]? = some (.deferred (some [])) := (HB5.out.block D (Array.getElem?_eq_some_iff.1 hK).1).trans hK
      obtain ⟨a0, a1, a2⟩ := st3_blk (hi.r0.call HB5.out) (hi.r1.call HB5.out) (hi.r2.call HB5.out) (.slice A0 L.length cap0) (.int .i64 0) (.int .i64 0) (.int .i64 0)
      have hDD := HDD.out
      have hKf : (st3 w5 w.heap.size (.slice A0 L.length cap0) (.int .i64 0) (.int .i64 0) (.int .i64 0)).heap[D]? = some (.deferred (some [])) := by rw [st3_heap _ _ _ _ _ _ (by omega)]; exact HK5
      have hbf : Below w.heap.size w (st3 w5 w.heap.size (.slice A0 L.length cap0) (.int .i64 0) (.int .i64 0) (.int .i64 0)) := st3_below (hi.bl.trans (HB5.out.mono hi.bl.size)) _ _ _ _
      refine ⟨by simp, .inl ⟨_, _, rfl, run_takeDeferred hKf, ?_⟩⟩
      have q0 := (show Blk ((st3 w5 w.heap.size (.slice A0 L.length cap0) (.int .i64 0) (.int .i64 0) (.int .i64 0)).putObj D (.deferred none)) _ _ _ from (World.putObj_heap_other (by omega)).trans a0).cell 0
      have q1 := (show Blk ((st3 w5 w.heap.size (.slice A0 L.length cap0) (.int .i64 0) (.int .i64 0) (.int .i64 0)).putObj D (.deferred none)) _ _ _ from (World.putObj_heap_other (by omega)).trans a1).cell 0
      have q2 := (show Blk ((st3 w5 w.heap.size (.slice A0 L.length cap0) (.int .i64 0) (.int .i64 0) (.int .i64 0)).putObj D (.deferred none)) _ _ _ from (World.putObj_heap_other (by omega)).trans a1).cell 1
      have q3 := (show Blk ((st3 w5 w.heap.size (.slice A0 L.length cap0) (.int .i64 0) (.int .i64 0) (.int .i64 0)).putObj D (.deferred none)) _ _ _ from (World.putObj_heap_other (by omega)).trans a2).cell 0
      simp only [List.getElem?_toArray, List.getElem?_cons_zero, List.getElem?_cons_succ] at q0 q1 q2 q3
      have hbp := hbf.grown (grownBy_putObj' _ D (.deferred none)) hbf.size (fun k e => by cases e; omega)
      unfold st3 at q0 q1 q2 q3
      refine ⟨.tuple #[.slice A0 L.length cap0, .agg #[.int .i64 0, .int .i64 0], .int .i64 0], ?_, ⟨L, 0, 0, A0, cap0, HIS.out, rfl, ?_, hbp⟩⟩
      · simp [results, Tryz.f12, go_sem, q0, q1, q2, q3]
      · obtain ⟨hpi, hgb⟩ := HPF.out
        refine ⟨hpi.1, ?_⟩
        rcases hpi.2 with h0 | ⟨g, off, hA, hat⟩
        · exact .inl h0
        · have hg := hgb _ hA
          have h5 := hat.below HB5.out hat.1
          have hg' : w.heap.size + 5 ≤ g := hg
          refine .inr ⟨g, off, hA, ?_⟩
          rcases Nat.eq_zero_or_pos L.length with hz0 | hz0
          · refine ⟨by simp [World.setCell, st3_size]; exact h5.1, fun k hk => by omega⟩
          have hne : g ≠ D := fun e => by
            subst e
            have h1 := (h5.2 0 (by omega)).1
            simp only [World.cell?, HK5] at h1
            cases h1
          refine h5.moved (by simp [st3_size]; exact h5.1) ?_
          exact (World.putObj_heap_other hne).trans (st3_heap _ _ _ _ _ _ (by omega))
    · have ST := Lib.hid (has_pinv A0 L.length cap0 (pmsL L) W (by omega) HPS true ⟨fun _ => by
        obtain ⟨p, hpn⟩ := Classical.not_forall.1 ha
        obtain ⟨hpm, hpo⟩ := Classical.not_imp.1 hpn
        obtain ⟨j, hj, he⟩ := List.getElem_of_mem hpm
        refine ⟨j, hj, ?_⟩
        have e : (pmsL L).at j = p := by rw [pmsL_at]; simp [List.getD, hj, he]
        have h1 : validB ((pmsL L).Nm j) ((pmsL L).Nd j) ((pmsL L).Ev j) ((pmsL L).Vol j) ((pmsL L).Tot j) = false := by
          have : ¬ okP ((pmsL L).at j) := by rw [e]; exact hpo
          simpa [okP, Pms.at] using this
        show (!_) = true
        rw [h1]; rfl, fun _ => rfl⟩)
      have HIS : Hid (PmIs s.data.toList [] 0 1) := .arg L hf hp ha
      clear ha HPS HPM hp hn hL
      gi_wp2_with (refine ⟨trivial, ?_⟩; gi_at_call 6; refine (callsIn_wide.2 ST.out).mono ?_; rintro e w5 ⟨rfl, hb5⟩; have HB5 := Lib.hid hb5; have y0 := (hi.r0.call hb5).cell 0; have y1 := (hi.r1.call hb5).cell 0; have y1' := (hi.r1.call hb5).cell 1; have y2 := (hi.r2.call hb5).cell 0; have f0 := (hi.r0.call hb5).frozen 0; have f1 := (hi.r1.call hb5).frozen 0; have f1' := (hi.r1.call hb5).frozen 1; have f2 := (hi.r2.call hb5).frozen 0; simp only [List.getElem?_toArray, List.getElem?_cons_zero, List.getElem?_cons_succ] at y0 y1 y1' y2; clear hb5)
      have HK5 : w5.heap[D]? = some (.deferred (some [])) := (HB5.out.block D (Array.getElem?_eq_some_iff.1 hK).1).trans hK
      obtain ⟨a0, a1, a2⟩ := st3_blk (hi.r0.call HB5.out) (hi.r1.call HB5.out) (hi.r2.call HB5.out) (.slice none 0 0) (.int .i64 0) (.int .i64 0) (.int .i64 1)
      have hDD := HDD.out
      have hKf : (st3 w5 w.heap.size (.slice none 0 0) (.int .i64 0) (.int .i64 0) (.int .i64 1)).heap[D]? = some (.deferred (some [])) := by rw [st3_heap _ _ _ _ _ _ (by omega)]; exact HK5
      have hbf : Below w.heap.size w (st3 w5 w.heap.size (.slice none 0 0) (.int .i64 0) (.int .i64 0) (.int .i64 1)) := st3_below (hi.bl.trans (HB5.out.mono hi.bl.size)) _ _ _ _
      refine ⟨by simp, .inl ⟨_, _, rfl, run_takeDeferred hKf, ?_⟩⟩
      have q0 := (show Blk ((st3 w5 w.heap.size (.slice none 0 0) (.int .i64 0) (.int .i64 0) (.int .i64 1)).putObj D (.deferred none)) _ _ _ from (World.putObj_heap_other (by omega)).trans a0).cell 0
      have q1 := (show Blk ((st3 w5 w.heap.size (.slice none 0 0) (.int .i64 0) (.int .i64 0) (.int .i64 1)).putObj D (.deferred none)) _ _ _ from (World.putObj_heap_other (by omega)).trans a1).cell 0
      have q2 := (show Blk ((st3 w5 w.heap.size (.slice none 0 0) (.int .i64 0) (.int .i64 0) (.int .i64 1)).putObj D (.deferred none)) _ _ _ from (World.putObj_heap_other (by omega)).trans a1).cell 1
      have q3 := (show Blk ((st3 w5 w.heap.size (.slice none 0 0) (.int .i64 0) (.int .i64 0) (.int .i64 1)).putObj D (.deferred none)) _ _ _ from (World.putObj_heap_other (by omega)).trans a2).cell 0
      simp only [List.getElem?_toArray, List.getElem?_cons_zero, List.getElem?_cons_succ] at q0 q1 q2 q3
      have hbp := hbf.grown (grownBy_putObj' _ D (.deferred none)) hbf.size (fun k e => by cases e; omega)
      unfold st3 at q0 q1 q2 q3
      refine ⟨.tuple #[.slice none 0 0, .agg #[.int .i64 0, .int .i64 0], .int .i64 1], ?_, ⟨[], 0, 1, none, 0, HIS.out, rfl, ⟨by simp, .inl rfl⟩, hbp⟩⟩
      · simp [results, Tryz.f12, go_sem, q0, q1, q2, q3]
  case body =>
    rintro l pre x post W hxs hi
    have HXS := Lib.hid hxs
    have hn1 : 1 ≤ 4 - 1 - 1 := by omega
    have hxm : x.size ≤ s.size := by
      have hm : x ∈ lines s := by rw [hxs]; simp
      unfold lines at hm
      obtain ⟨l, hl, rfl⟩ := List.mem_map.1 hm
      have h1 := rl_join s.data.toList
      have h2 : l.length ≤ (rl s.data.toList).flatten.length := by
        obtain ⟨a, b, e⟩ := List.append_of_mem hl
        rw [e]; simp; omega
      rw [h1] at h2
      have h3 := size_lst s
      show l.length ≤ _
      omega
    have hxs5 := HSZ.out
    have SC := Lib.hid fun w => tcutsuf x (by omega) w
    have hes : (endC x).size ≤ 100000 := by have := endC_size x; omega
    have HEW := Lib.hid (HE.out.below hi.bl)
    have HI := Lib.hid hi
    obtain ⟨v, L, hv, ho, hL, hf, hp⟩ := hi.tb
    have hll : pre.length ≤ 5000 := by
      have h1 := rl_len s.data.toList
      have h2 := congrArg List.length (lines_lists s)
      rw [List.length_map, hxs] at h2
      simp at h2
      have h3 := size_lst s
      omega
    obtain ⟨A0, cap0, rfl⟩ := own_shape ho
    by_cases k1 : ∃ p, formP p ∧ (endC x).data.toList = pln p
    · obtain ⟨p, hpf, hpe⟩ := k1
      have SL := Lib.hid fun w hE => tpline_ok (endC x) hes p hpf hpe w hE
      generalize hce : endC x = ce at SC SL hpe
      cases hb : endB x with
      | true =>
        have hx : x.data.toList = pln p ++ [10] := by rw [end_true hb, hce, hpe]
        rw [hb] at SC
        gi_wp2_with (first
          | (refine ⟨trivial, ?_⟩; gi_at_call 28; refine (CallsIn.inRound l (callsIn_wide.2 (SC.out _))).mono ?_; rintro e w5 ⟨rfl, hb5⟩; have HB5 := Lib.hid hb5; clear hb5)
          | (refine ⟨trivial, ?_⟩; gi_at_call 29; with_reducible refine (CallsIn.inRound l (callsIn_wide.2 (SL.out _ (HEW.out.below HB5.out)))).mono ?_; rintro e w6 ⟨rfl, hb⟩; have HB6 := Lib.hid (below_step HB5.out hb); clear hb; have y3 := (hv.call HB6.out).cell 0; have f3 := (hv.call HB6.out).frozen 0; simp only [List.getElem?_toArray, List.getElem?_cons_zero] at y3; have l3 := (hv.call HB6.out).lt; have HO6 := Lib.hid (own_below ho HB6.out))
          | (gi_at_builtin; refine wpListIn_append_own _ rfl _ _ 22 rfl (w.heap.size + 5) 26 i0 (.agg #[.string ⟨#[]⟩, .string ⟨#[]⟩, .int .i64 0, .int .i64 0, .int .i64 0]) 5 56 Tryz.underlying22 HI0.out HZ0.out HZ1.out HZ2.out rfl (by decide) (.slice A0 pre.length cap0) pre.length (pc L) rfl ?c1 ⟨w6.heap.size + 1, 0, none⟩ 1 1 [.string p.nm, .string p.nd, .int .i64 p.ev, .int .i64 p.vol, .int .i64 p.tot] ?c2 ?c3 ?c4 ?c5 ?c6 ?c7 ?c8 ?c9
             case c1 => exact (HO6.out.alloc _).alloc _
             case c2 => first | exact rfl | (simp [go_sem]; done)
             case c3 => exact rfl
             case c4 => exact World.news_of_block (cs := #[.string p.nm, .string p.nd, .int .i64 p.ev, .int .i64 p.vol, .int .i64 p.tot]) (t := 26) (fr := (0, 0)) (by have := heap_alloc_new (w6.alloc (.cells #[.string p.nm, .string p.nd, .int .i64 p.ev, .int .i64 p.vol, .int .i64 p.tot] 26)) (.cells #[.string p.nm, .string p.nd, .int .i64 p.ev, .int .i64 p.vol, .int .i64 p.tot] 26); simpa using this)
             case c5 => simp [Value.oneCell']
             case c6 => exact h63_le (by omega)
             case c7 => exact hby_le (by omega)
             case c8 => have h1 := HB6.out.size; have h2 := HI.out.sz; rw [World.size_alloc, World.size_alloc]; omega
             intro v' w8 hown' hgrow hnil
             have HOWN := Lib.hid hown'
             have HG := Lib.hid hgrow
             have hk8 := (app_keep (HO6.out.alloc (.cells #[.string p.nm, .string p.nd, .int .i64 p.ev, .int .i64 p.vol, .int .i64 p.tot] 26)) hgrow).2.1
             have hv8 : Blk w8 (w.heap.size + 1 + 1 + 1) 22 #[.slice A0 pre.length cap0] := (hk8 (w.heap.size + 1 + 1 + 1) (by omega) (by rw [World.size_alloc]; omega)).trans ((hv.call HB6.out).alloc _)
             have y8 := hv8.cell 0
             have f8 := hv8.frozen 0
             obtain ⟨A8, cap8, rfl⟩ := own_shape hown'
             simp only [List.getElem?_toArray, List.getElem?_cons_zero] at y8
             clear hk8 hown' hgrow hnil))
        exact HI.out.app HHS.out (w7 := w6.alloc (.cells #[.string p.nm, .string p.nd, .int .i64 p.ev, .int .i64 p.vol, .int .i64 p.tot] 26)) (HB6.out.alloc HB6.out.size _) hL hf hp hpf hx ((hv.call HB6.out).alloc _) (HO6.out.alloc _) HOWN.out HG.out
      | false =>
        rw [hb] at SC
        have HNO : Hid (∀ p, formP p → x.data.toList ≠ pln p ++ [10]) := fun q hq he => by have := (end_of he).1; rw [hb] at this; cases this
        gi_wp2_with (first
            | (refine ⟨trivial, ?_⟩; gi_at_call 28; refine (CallsIn.inRound l (callsIn_wide.2 (SC.out _))).mono ?_; rintro e w5 ⟨rfl, hb5⟩; have HB5 := Lib.hid hb5; clear hb5)
            | (refine ⟨trivial, ?_⟩; gi_at_call 29; with_reducible refine (CallsIn.inRound l (callsIn_wide.2 (SL.out _ (HEW.out.below HB5.out)))).mono ?_; rintro e w6 ⟨rfl, hb⟩; have HB6 := Lib.hid (below_step HB5.out hb); clear hb; have y3 := (hv.call HB6.out).cell 0; have f3 := (hv.call HB6.out).frozen 0; simp only [List.getElem?_toArray, List.getElem?_cons_zero] at y3))
        have HB7 : Below W.heap.size W (w6.alloc (Obj.cells #[.string p.nm, .string p.nd, .int .i64 p.ev, .int .i64 p.vol, .int .i64 p.tot] 26)) := HB6.out.alloc HB6.out.size _
        generalize w6.alloc (Obj.cells #[.string p.nm, .string p.nd, .int .i64 p.ev, .int .i64 p.vol, .int .i64 p.tot] 26) = w7 at HB7 ⊢
        clear y3 f3
        have d0 := hi.r0.call HB7
        have d1 := hi.r1.call HB7
        have d2 := hi.r2.call HB7
        have d3 := hv.call HB7
        have y0 := d0.cell 0
        have y1 := d1.cell 0
        have y1' := d1.cell 1
        have y2 := d2.cell 0
        have y3 := d3.cell 0
        have f0 := d0.frozen 0
        have f1 := d1.frozen 0
        have f1' := d1.frozen 1
        have f2 := d2.frozen 0
        have f3 := d3.frozen 0
        simp only [List.getElem?_toArray, List.getElem?_cons_zero, List.getElem?_cons_succ] at y0 y1 y1' y2 y3
        obtain ⟨k, hk⟩ : ∃ k, k = pre.length + 1 := ⟨_, rfl⟩
        have x0 : IntKind.i64.wrap ((pre.length : Int) + 1) = (k : Int) := by rw [IntKind.wrap_i64]; omega
        have hmx : Tryz.prog.follows .mixedOrders = true := by kernel_rfl
        gi_region_with_o (fail)
        all_goals
          rw [show ((pre.length : Int) + 1) = (k : Int) from by omega]
          gi_wp2_with fail
          exact ⟨keeps_drew (keeps_st3 _ _ _ _ HB7 (by omega)), (PqI.bad hi HB7 hxs HNO.out hk).drew⟩
    · have SL := Lib.hid fun w hE => tpline_no (endC x) hes (fun p hp he => k1 ⟨p, hp, he⟩) w hE
      have HNO : Hid (∀ p, formP p → x.data.toList ≠ pln p ++ [10]) := fun p hp he => k1 ⟨p, hp, (end_of he).2⟩
      generalize endC x = ce at SC SL
      generalize endB x = cb at SC
      gi_wp2_with (first
          | (refine ⟨trivial, ?_⟩; gi_at_call 28; refine (CallsIn.inRound l (callsIn_wide.2 (SC.out _))).mono ?_; rintro e w5 ⟨rfl, hb5⟩; have HB5 := Lib.hid hb5; clear hb5)
          | (refine ⟨trivial, ?_⟩; gi_at_call 29; with_reducible refine (CallsIn.inRound l (callsIn_wide.2 (SL.out _ (HEW.out.below HB5.out)))).mono ?_; rintro e w6 ⟨rfl, hb⟩; have HB6 := Lib.hid (below_step HB5.out hb); clear hb; have y3 := (hv.call HB6.out).cell 0; have f3 := (hv.call HB6.out).frozen 0; simp only [List.getElem?_toArray, List.getElem?_cons_zero] at y3))
      have HB7 : Below W.heap.size W (w6.alloc (Obj.cells #[.string ⟨#[]⟩, .string ⟨#[]⟩, .int .i64 0, .int .i64 0, .int .i64 0] 26)) := HB6.out.alloc HB6.out.size _
      generalize w6.alloc (Obj.cells #[.string ⟨#[]⟩, .string ⟨#[]⟩, .int .i64 0, .int .i64 0, .int .i64 0] 26) = w7 at HB7 ⊢
      clear y3 f3
      have d0 := hi.r0.call HB7
      have d1 := hi.r1.call HB7
      have d2 := hi.r2.call HB7
      have d3 := hv.call HB7
      have y0 := d0.cell 0
      have y1 := d1.cell 0
      have y1' := d1.cell 1
      have y2 := d2.cell 0
      have y3 := d3.cell 0
      have f0 := d0.frozen 0
      have f1 := d1.frozen 0
      have f1' := d1.frozen 1
      have f2 := d2.frozen 0
      have f3 := d3.frozen 0
      simp only [List.getElem?_toArray, List.getElem?_cons_zero, List.getElem?_cons_succ] at y0 y1 y1' y2 y3
      obtain ⟨k, hk⟩ : ∃ k, k = pre.length + 1 := ⟨_, rfl⟩
      have x0 : IntKind.i64.wrap ((pre.length : Int) + 1) = (k : Int) := by rw [IntKind.wrap_i64]; omega
      have hmx : Tryz.prog.follows .mixedOrders = true := by kernel_rfl
      gi_region_with_o (fail)
      all_goals
        rw [show ((pre.length : Int) + 1) = (k : Int) from by omega]
        gi_wp2_with fail
        exact ⟨keeps_drew (keeps_st3 _ _ _ _ HB7 (by omega)), (PqI.bad hi HB7 hxs HNO.out hk).drew⟩
end Go.Proofs.YtigocjhmgmhocaaGreatDoor

/- Merged texts of these proofs: Ovr, Ovu. -/
import Derived.Test.YtfgakaielfekoaaGreatDoorMgD
import Derived.BigRegion
namespace Go.Proofs.YtfgakaielfekoaaGreatDoor
open Go.RowKit
set_option linter.unusedVariables false
set_option linter.unusedSimpArgs false

theorem EMem.drew {w wr : World} {u : Value} {N : Nat} {R : List Sp} (h : EMem w wr u N R) : EMem w wr.drew u N R := ⟨h.1.drew, h.2.1, h.2.2.drew⟩
theorem set_one (L : List Value) (a b c d u : Value) : (L ++ [a, b, c, d]).set (L.length + 1) u = L ++ [a, u, c, d] ∧ (L ++ [a, b, c, d]).set (L.length + 2) u = L ++ [a, b, u, d] ∧ (L ++ [a, b, c, d]).set (L.length + 3) u = L ++ [a, b, c, u] := by
  have h1 : ¬ L.length + 1 < L.length := by omega
  have h2 : ¬ L.length + 2 < L.length := by omega
  have h3 : ¬ L.length + 3 < L.length := by omega
  simp [List.set_append]
theorem EMem.setX {w wr : World} {g K cap j : Nat} {R : List Sp} {x y : Sp} {u : Value} (h : EMem w wr (.slice (some ⟨g, 0, none⟩) (K + 1) cap) (K + 1) (R ++ [x])) (hK : K = R.length) (hl : (evc (R ++ [x])).set (K * 4 + j) u = evc (R ++ [y])) :
    EMem w (wr.setCell ⟨g, K * 4 + j, none⟩ u) (.slice (some ⟨g, 0, none⟩) (K + 1) cap) (K + 1) (R ++ [y]) := by
  have s1 := h.1.stored (K * 4 + j) u
  refine ⟨by rw [← hl]; exact s1.1, by rw [List.length_append, hK]; rfl, below_own h.1 h.2.2 s1.2⟩
theorem EMem.set1 {w wr : World} {g K cap : Nat} {R : List Sp} {x y : Sp} {t : Int} (h : EMem w wr (.slice (some ⟨g, 0, none⟩) (K + 1) cap) (K + 1) (R ++ [x])) (hK : K = R.length) (hy : y.f = x.f ∧ t = (y.t : Int) ∧ y.s = x.s ∧ y.p = x.p) :
    EMem w (wr.setCell ⟨g, K * 4 + 1, none⟩ (.int .i64 t)) (.slice (some ⟨g, 0, none⟩) (K + 1) cap) (K + 1) (R ++ [y]) := by
  obtain ⟨h1, h2, h3, h4⟩ := hy
  refine h.setX hK ?_
  rw [evc_snoc, evc_snoc, hK, ← evc_len, (set_one _ _ _ _ _ _).1, h1, h2, h3, h4]
theorem EMem.set2 {w wr : World} {g K cap : Nat} {R : List Sp} {x y : Sp} {s : Int} (h : EMem w wr (.slice (some ⟨g, 0, none⟩) (K + 1) cap) (K + 1) (R ++ [x])) (hK : K = R.length) (hy : y.f = x.f ∧ y.t = x.t ∧ s = y.s ∧ y.p = x.p) :
    EMem w (wr.setCell ⟨g, K * 4 + 2, none⟩ (.int .i64 s)) (.slice (some ⟨g, 0, none⟩) (K + 1) cap) (K + 1) (R ++ [y]) := by
  obtain ⟨h1, h2, h3, h4⟩ := hy
  refine h.setX hK ?_
  rw [evc_snoc, evc_snoc, hK, ← evc_len, (set_one _ _ _ _ _ _).2.1, h1, h2, h3, h4]
theorem EMem.set3 {w wr : World} {g K cap : Nat} {R : List Sp} {x y : Sp} {p : Int} (h : EMem w wr (.slice (some ⟨g, 0, none⟩) (K + 1) cap) (K + 1) (R ++ [x])) (hK : K = R.length) (hy : y.f = x.f ∧ y.t = x.t ∧ y.s = x.s ∧ p = y.p) :
    EMem w (wr.setCell ⟨g, K * 4 + 3, none⟩ (.int .i64 p)) (.slice (some ⟨g, 0, none⟩) (K + 1) cap) (K + 1) (R ++ [y]) := by
  obtain ⟨h1, h2, h3, h4⟩ := hy
  refine h.setX hK ?_
  rw [evc_snoc, evc_snoc, hK, ← evc_len, (set_one _ _ _ _ _ _).2.2, h1, h2, h3, h4]
theorem EMem.app4 {w wr w' : World} {u v : Value} {N i t : Nat} {R : List Sp} {z : Int} (h : EMem w wr u N R) {cs : Array Value} {t' : TypeId} (ht : t = i + 1) (hown : w'.ownsRow w.heap.size 119 4 v (N + 1) (evc R ++ [.int .i64 (i : Int), .int .i64 (t : Int), .int .i64 z, .int .i64 z])) (hg : (wr.alloc (.cells cs t')).grownBy w' u.ownBlock) : EMem w w' v (N + 1) (R ++ [spNew i z]) :=
  ⟨by rw [evc_snoc]; subst ht; exact hown, by rw [List.length_append, h.2.1]; rfl, below_own (h.1.alloc _) (h.2.2.alloc h.2.2.size _) hg⟩
theorem rVolume (z : Int) (w : World) : Calls Tryz.prog 114 #[.int .i64 z] w fun e w' => e = .returned (.bool (decide (0 ≤ z ∧ z ≤ 1125899906842624))) ∧ w = w' := by
  by_cases h1 : 0 ≤ z
  · have t1 : decide (0 ≤ z) = true := decide_eq_true h1
    by_cases h2 : z ≤ 1125899906842624
    · have t2 : decide (z ≤ 1125899906842624) = true := decide_eq_true h2
      rw [decide_eq_true (show 0 ≤ z ∧ z ≤ 1125899906842624 from ⟨h1, h2⟩)]
      clear h1 h2
      go_enter Tryz.func114, Tryz.ntmps114
      go_wp2_with fail
      go_ret
      exact ⟨rfl, rfl⟩
    · have t2 : decide (z ≤ 1125899906842624) = false := decide_eq_false h2
      rw [decide_eq_false (show ¬ (0 ≤ z ∧ z ≤ 1125899906842624) from fun h => h2 h.2)]
      clear h1 h2
      go_enter Tryz.func114, Tryz.ntmps114
      go_wp2_with fail
      go_ret
      exact ⟨rfl, rfl⟩
  · have t1 : decide (0 ≤ z) = false := decide_eq_false h1
    rw [decide_eq_false (show ¬ (0 ≤ z ∧ z ≤ 1125899906842624) from fun h => h1 h.1)]
    clear h1
    go_enter Tryz.func114, Tryz.ntmps114
    go_wp2_with fail
    go_ret
    exact ⟨rfl, rfl⟩
set_option maxHeartbeats 2000000 in
theorem rBig (A : Option Addr) (n c : Nat) (C : Nat → Int) (h20 : n ≤ 20) (hC : ∀ k, k < n → 0 ≤ C k ∧ C k ≤ 1125899906842624) (w : World) (ht : IntIn w A n C) :
    Calls Tryz.prog 115 #[.slice A n c] w fun e w' => e = .returned (.bool false) ∧ Below w.heap.size w w' := by
  have HT := Lib.hid ht
  have H2 := Lib.hid h20
  have HC := Lib.hid hC
  clear ht h20 hC
  go_enter Tryz.func115, Tryz.ntmps115
  go_wp2_with fail
  go_loopw [3, 4] (fun s u wr => ∃ i : Nat, Hid (i ≤ n) ∧ u = .int .i64 i ∧ ∃ z : Int, s = .int .i64 z ∧ Hid (z = psum C i) ∧ Hid (Below w.heap.size w wr)) (fun _ u _ => n - (RowKit.intOf u).toNat)
  case atStart => exact ⟨0, Nat.zero_le _, rfl, 0, rfl, rfl, Below.refl _ _⟩
  case round =>
    obtain ⟨i, Hi, rfl, z, rfl, HZ, HW⟩ := hrel
    by_cases hlt : i < n
    · have T0 : decide ((i : Int) < (n : Int)) = true := by simp <;> omega
      have T0' : decide (i < n) = true := decide_eq_true hlt
      obtain ⟨i', hi'⟩ : ∃ z, z = i + 1 := ⟨_, rfl⟩
      have x0 : IntKind.i64.wrap ((i : Int) + 1) = (i' : Int) := by have := H2.out; rw [IntKind.wrap_i64]; omega
      have HI' : Hid (i' ≤ n) := by show i' ≤ n; omega
      have HMS : Hid (n - (RowKit.intOf (Value.int .i64 (i' : Int))).toNat < n - (RowKit.intOf (Value.int .i64 (i : Int))).toNat) := by show _ < _; simp [RowKit.intOf]; omega
      have k0 : (0 : Int) ≤ (i : Int) := by omega
      have k1 : (i : Int) < (n : Int) := by omega

      obtain ⟨b, off, rfl, hb, c0⟩ := (HT.out.below (Nat.le_refl _) HW.out).at hlt
      have hz := psum_bd (f := C) (n := i) fun k hk => HC.out k (by omega)
      have hc := HC.out i hlt
      rw [← HZ.out] at hz
      have hi20 : (i : Int) ≤ 20 := by have := H2.out; omega
      obtain ⟨z', hz'⟩ : ∃ z', z' = z + C i := ⟨_, rfl⟩
      have x1 : IntKind.i64.wrap (z + C i) = z' := by rw [IntKind.wrap_i64]; omega
      have t1 : decide (1152921504606846976 < z') = false := decide_eq_false (by omega)
      have HZ' : Hid (z' = psum C i') := by show z' = _; rw [hi', hz', HZ.out]; rfl
      clear hi' hz hc hi20 hz' hlt
      go_wp2_with fail
      go_roundw
      case rel => exact ⟨i', HI', rfl, z', rfl, HZ', HW.out⟩
      case measure => exact HMS.out
    · have T0 : decide ((i : Int) < (n : Int)) = false := by simp <;> omega
      have T0' : decide (i < n) = false := decide_eq_false hlt
      have hin : i = n := by have := Hi.out; omega

      clear hin hlt
      go_wp2_with fail
      go_ret
      exact ⟨rfl, HW.out⟩
set_option maxRecDepth 100000 in
set_option maxHeartbeats 8000000 in
theorem rRuns (A : Option Addr) (n c : Nat) (v : Nat → Int) (h20 : n ≤ 20) (hv : ∀ k, k < n → 0 ≤ v k ∧ v k ≤ 1125899906842624) (w : World) (ht : IntIn w A n v) :
    Calls Tryz.prog 116 #[.slice A n c, .int .i64 1] w (SpPost w (runs v n)) := by
  have HT := Lib.hid ht
  have H2 := Lib.hid h20
  have HV := Lib.hid hv
  obtain ⟨SI0, si0, sz0, sz1, sz2⟩ := info_parts1 infoEv
  have SI1 := Lib.hid si0
  have SI2 := Lib.hid sz0
  have SI3 := Lib.hid sz1
  have SI4 := Lib.hid sz2
  clear si0 sz0 sz1 sz2

  clear ht h20 hv
  go_enter Tryz.func116, Tryz.ntmps116
  go_wp2_with fail
  go_loopw [5, 6] (fun o u wr => ∃ (i N : Nat), Hid (i ≤ n) ∧ u = .int .i64 i ∧ Hid (EMem w wr o N (runs v i))) (fun _ u _ => n - (RowKit.intOf u).toNat)
  case atStart => exact ⟨0, 0, Nat.zero_le _, rfl, EMem.nil _ _ (Below.refl _ _)⟩
  case round =>
    obtain ⟨i, N, Hi, rfl, HM⟩ := hrel
    obtain ⟨A8, cap8, h8, hnc⟩ := HM.out.form
    subst h8
    by_cases hlt : i < n
    · have T0 : decide ((i : Int) < (n : Int)) = true := by simp <;> omega
      have T0' : decide (i < n) = true := decide_eq_true hlt
      obtain ⟨i', hi'⟩ : ∃ z, z = i + 1 := ⟨_, rfl⟩
      have x0 : IntKind.i64.wrap ((i : Int) + 1) = (i' : Int) := by have := H2.out; rw [IntKind.wrap_i64]; omega
      have HI' : Hid (i' ≤ n) := by show i' ≤ n; omega
      have HMS : Hid (n - (RowKit.intOf (Value.int .i64 (i' : Int))).toNat < n - (RowKit.intOf (Value.int .i64 (i : Int))).toNat) := by show _ < _; simp [RowKit.intOf]; omega
      have k0 : (0 : Int) ≤ (i : Int) := by omega
      have k1 : (i : Int) < (n : Int) := by omega

      have HCV : Hid (∃ z, z = v i ∧ ∀ w', Below w.heap.size w w' → True) := ⟨_, rfl, fun _ _ => trivial⟩
      clear HCV
      obtain ⟨bv, ov, rfl, hbv, cv⟩ := (HT.out.below (Nat.le_refl _) HM.out.2.2).at hlt
      have hz := HV.out i hlt
      have hgood := runs_good (v := v) (i := i) (by have := H2.out; omega) fun k hk => HV.out k (by omega)
      have hi20 : i ≤ 20 := by have := H2.out; omega
      have HN2 : Hid (N ≤ 2000) := by show N ≤ 2000; rw [HM.out.2.1]; have := hgood.len; omega
      by_cases hz0 : v i = 0
      · have HR : Hid (runs v i' = runs v i) := by show _ = _; rw [hi']; exact runs_zero hz0
        rw [hz0] at cv
        clear hi' hz hgood hz0 hlt hi20
        go_wp2_with fail
        go_roundw
        case rel => exact ⟨i', N, HI', rfl, by show EMem w _ _ N (runs v i'); rw [HR.out]; exact HM.out⟩
        case measure => exact HMS.out
      have t0 : (v i == 0) = false := by simpa using hz0
      have HCV : Hid (∀ w', Below w.heap.size w w' → w'.cell? ⟨bv, ov + i, none⟩ = some (.int .i64 (v i))) := fun w' h => by
        obtain ⟨b', o', hA, _, hc⟩ := (HT.out.below (Nat.le_refl _) h).at hlt
        injection hA with hA
        injection hA with e1 e2
        subst e1 e2
        exact hc
      obtain ⟨z, hzz⟩ : ∃ z, z = v i := ⟨_, rfl⟩
      rw [← hzz] at cv hz t0 hz0 HCV
      rcases List.eq_nil_or_concat (runs v i) with e | ⟨M, x, e⟩
      · have hN0 : N = 0 := by rw [HM.out.2.1, e]; rfl
        subst hN0
        have HR1 : Hid (runs v i' = runs v i ++ [spNew i z]) := by show _ = _; rw [hi', e, hzz]; exact runs_none (by rw [← hzz]; exact hz0) e
        have HX : Hid (i' = i + 1) := hi'
        clear hi' hz hgood hz0 hlt hi20 hzz e 
        go_upto_region 12 with fail
        have HMd : Hid (EMem w wr.drew (.slice A8 0 cap8) 0 (runs v i)) := HM.out.drew
        have KS : Hid (∀ w', Below wr.heap.size wr w' → w'.cell? ⟨bv, ov + i, none⟩ = some (.int .i64 z)) := fun w' h => (h.cell (p := ⟨bv, ov + i, none⟩) hbv).trans cv
        go_region_held3 (fun w' => w'.cell? ⟨bv, ov + i, none⟩ = some (.int .i64 z)) (first
          | exact cv
          | exact KS.out _ ((Below.refl _ wr).drew)
          | exact KS.out _ (((Below.refl _ wr).alloc (Nat.le_refl _) _).drew)
          | exact y0) (first
          | ((refine step_append_lies _ (by rfl) _ _ _ (by rfl) w.heap.size 119 SI0 (.agg #[.int .i64 0, .int .i64 0, .int .i64 0, .int .i64 0]) 4 32 Tryz.underlying70 SI1.out SI2.out SI3.out SI4.out rfl (by omega) (.slice A8 0 cap8) (0) (evc (runs v i)) (by rfl) (HMd.out.1.alloc _) ⟨wr.heap.size, 0, none⟩ 1 1 [.int .i64 (i : Int), .int .i64 (i' : Int), .int .i64 z, .int .i64 z] (by rfl) (by rfl) (World.news_of_block (cs := #[.int .i64 (i : Int), .int .i64 (i' : Int), .int .i64 z, .int .i64 z]) (t := 119) (fr := (0, 0)) (heap_alloc_new wr _)) (by simp [Value.oneCell']) (by omega) (h63_o HN2.out) (hby_e HN2.out) (base_alloc1 HMd.out.2.2.size _) (wr.heap.size + 1) (by simp) ?_
              intro gg capg wA hownA hgrowA hatA hltA
              have HM7 := Lib.hid (HMd.out.app4 HX.out hownA hgrowA)
              have y0 := HCV.out _ HM7.out.2.2
              clear hownA hgrowA hatA hltA)))
        go_wp2_with fail
        go_roundw
        case rel => exact ⟨i', 0 + 1, HI', rfl, by show EMem w _ _ (0 + 1) (runs v i'); rw [HR1.out]; exact HM7.out⟩
        case measure => exact HMS.out
      · rw [List.concat_eq_append] at e
        have hl0 : 0 < N := by
          have hN := HM.out.2.1
          rw [e, List.length_append] at hN
          rw [hN]; exact Nat.succ_pos _
        have hxt := (hgood.each x (by rw [e]; simp))
        by_cases ht : x.t = i
        case neg =>
          have HR1 : Hid (runs v i' = runs v i ++ [spNew i z]) := by show _ = _; rw [hi', e, hzz]; exact runs_new (by rw [← hzz]; exact hz0) e ht
          obtain ⟨K, hK⟩ : ∃ K, K = M.length := ⟨_, rfl⟩
          have hNK : N = K + 1 := by rw [HM.out.2.1, e, List.length_append, hK]; rfl
          subst hNK
          have hM := HM.out
          rw [e] at hM
          obtain ⟨g8, cap8', h8', _, _⟩ := World.ownsRow.form hM.1 (by omega)
          rw [h8'] at hM
          injection h8' with hA _ hc
          subst hA hc
          obtain ⟨c4, c5, c6, c7, hg8, hz8⟩ := hM.at hK
          have x7 : IntKind.i64.wrap ((i : Int) - (x.t : Int)) = (i : Int) - (x.t : Int) := by rw [IntKind.wrap_i64]; omega
          have t1 : decide ((i : Int) - (x.t : Int) < 1) = false := decide_eq_false (by omega)
          have e2 : IntKind.i64.wrap ((K : Int) + 1 - 1) = (K : Int) := by have := HN2.out; rw [IntKind.wrap_i64]; omega
          have e3 : IntKind.i64.wrap (K : Int) = (K : Int) := by have := HN2.out; rw [IntKind.wrap_i64]; omega
          have t5 : decide ((0 : Int) ≤ (K : Int)) = true := decide_eq_true (by omega)
          have HX : Hid (i' = i + 1) := hi'
          clear hi' hz hgood hz0 hlt hi20 hzz e hl0 hxt ht hM hK hz8 c4 c6 c7
          go_upto_region 12 with fail
          have HMd : Hid (EMem w wr.drew (.slice (some ⟨g8, 0, none⟩) (K + 1) cap8) (K + 1) (runs v i)) := HM.out.drew
          have KS : Hid (∀ w', Below wr.heap.size wr w' → w'.cell? ⟨bv, ov + i, none⟩ = some (.int .i64 z)) := fun w' h => (h.cell (p := ⟨bv, ov + i, none⟩) hbv).trans cv
          go_region_held3 (fun w' => w'.cell? ⟨bv, ov + i, none⟩ = some (.int .i64 z)) (first
            | exact cv
            | exact KS.out _ ((Below.refl _ wr).drew)
            | exact KS.out _ (((Below.refl _ wr).alloc (Nat.le_refl _) _).drew)
            | exact y0) (first
            | ((refine step_append_lies _ (by rfl) _ _ _ (by rfl) w.heap.size 119 SI0 (.agg #[.int .i64 0, .int .i64 0, .int .i64 0, .int .i64 0]) 4 32 Tryz.underlying70 SI1.out SI2.out SI3.out SI4.out rfl (by omega) (.slice (some ⟨g8, 0, none⟩) (K + 1) cap8) ((K + 1)) (evc (runs v i)) (by rfl) (HMd.out.1.alloc _) ⟨wr.heap.size, 0, none⟩ 1 1 [.int .i64 (i : Int), .int .i64 (i' : Int), .int .i64 z, .int .i64 z] (by rfl) (by rfl) (World.news_of_block (cs := #[.int .i64 (i : Int), .int .i64 (i' : Int), .int .i64 z, .int .i64 z]) (t := 119) (fr := (0, 0)) (heap_alloc_new wr _)) (by simp [Value.oneCell']) (by omega) (h63_o HN2.out) (hby_e HN2.out) (base_alloc1 HMd.out.2.2.size _) (wr.heap.size + 1) (by simp) ?_
                intro gg capg wA hownA hgrowA hatA hltA
                have HM7 := Lib.hid (HMd.out.app4 HX.out hownA hgrowA)
                have y0 := HCV.out _ HM7.out.2.2
                clear hownA hgrowA hatA hltA)))
          go_wp2_with fail
          go_roundw
          case rel => exact ⟨i', (K + 1) + 1, HI', rfl, by show EMem w _ _ ((K + 1) + 1) (runs v i'); rw [HR1.out]; exact HM7.out⟩
          case measure => exact HMS.out
        obtain ⟨K, hK⟩ : ∃ K, K = M.length := ⟨_, rfl⟩
        have hNK : N = K + 1 := by rw [HM.out.2.1, e, List.length_append, hK]; rfl
        subst hNK
        have HR1 : Hid (runs v i' = M ++ [spOn x i z]) := by show _ = _; rw [hi', hzz]; exact runs_on (by rw [← hzz]; exact hz0) e ht
        have hM := HM.out
        rw [e] at hM
        obtain ⟨g8, cap8', h8', _, _⟩ := World.ownsRow.form hM.1 (by omega)
        rw [h8'] at hM
        injection h8' with hA _ hc
        subst hA hc
        obtain ⟨c4, c5, c6, c7, hg8, hz8⟩ := hM.at hK
        rw [ht] at c5
        have z1 := hz8 (K * 4 + 1)
        have hsum : 0 ≤ x.s ∧ x.s ≤ 22517998136852480 := by
          have h1 := hxt.2.1
          have h2 : 1125899906842624 * ((x.t : Int) - x.f) ≤ 1125899906842624 * 20 := Int.mul_le_mul_of_nonneg_left (by omega) (by omega)
          omega
        have x9 : IntKind.i64.wrap (x.s + z) = x.s + z := by rw [IntKind.wrap_i64]; omega
        have HK := Lib.hid hK
        have hM1 := hM.set1 hK (y := ⟨x.f, i + 1, x.s, x.p⟩) (t := (i' : Int)) ⟨rfl, by rw [hi'], rfl, rfl⟩
        have HM1 := Lib.hid hM1
        have HCW : Hid (∀ w', Below w.heap.size w w' → w'.cell? ⟨bv, ov + i, none⟩ = some (.int .i64 z)) := HCV
        have e2 : IntKind.i64.wrap ((K : Int) + 1 - 1) = (K : Int) := by have := HN2.out; rw [IntKind.wrap_i64]; omega
        have e3 : IntKind.i64.wrap (K : Int) = (K : Int) := by have := HN2.out; rw [IntKind.wrap_i64]; omega
        have t5 : decide ((0 : Int) ≤ (K : Int)) = true := decide_eq_true (by omega)
        have x7 : IntKind.i64.wrap ((i : Int) - (i : Int)) = 0 := by rw [IntKind.wrap_i64]; omega
        have hs0 : (i : Int) - (i : Int) = 0 := by omega
        have HX : Hid (i' = i + 1) := hi'
        obtain ⟨s, hxs⟩ : ∃ s, s = x.s := ⟨_, rfl⟩
        obtain ⟨p, hxp⟩ : ∃ p, p = x.p := ⟨_, rfl⟩
        rw [← hxs] at x9
        have HXS := Lib.hid hxs
        have HXP := Lib.hid hxp
        clear hi' hz hgood hz0 hlt hi20 hzz hl0 hxt ht e hM hM1 hK hz8 hsum hxs hxp c6 c7
        go_upto_region 9 with fail
        generalize wr.setCell ⟨g8, K * 4 + 1, none⟩ (.int .i64 (i' : Int)) = w8 at HM1 ⊢
        obtain ⟨c4, c5, c6, c7, hg8, hz8⟩ := HM1.out.at HK.out
        have c6n : w8.cell? ⟨g8, K * 4 + 2, none⟩ = some (.int .i64 s) := by rw [HXS.out]; exact c6
        clear c6
        have z2 := hz8 (K * 4 + 2)
        have cv8 := HCW.out _ HM1.out.2.2
        have HM2 := Lib.hid (HM1.out.set2 HK.out (y := ⟨x.f, i + 1, x.s + z, x.p⟩) (s := s + z) ⟨rfl, rfl, by rw [HXS.out], rfl⟩).drew
        clear hz8 c4 c5 c7 cv
        go_region
        go_upto_region 10 with fail
        generalize (w8.setCell ⟨g8, K * 4 + 2, none⟩ (.int .i64 (s + z))).drew = w9 at HM2 ⊢
        obtain ⟨c4, c5, c6, c7, hg9, hz9⟩ := HM2.out.at HK.out
        have c7n : w9.cell? ⟨g8, K * 4 + 3, none⟩ = some (.int .i64 p) := by rw [HXP.out]; exact c7
        clear c7
        have z3 := hz9 (K * 4 + 3)
        have cv9 := HCW.out _ HM2.out.2.2
        clear hz9 c4 c5 c6 c6n cv8 hg8
        by_cases hpz : p < z
        case pos =>
          have t6 : decide (p < z) = true := decide_eq_true hpz
          have HM3 := Lib.hid (HM2.out.drew.set3 HK.out (y := spOn x i z) (p := z) ⟨rfl, rfl, rfl, by show z = if x.p < z then z else x.p; rw [← HXP.out, if_pos hpz]⟩)
          clear hpz
          go_region
          go_wp2_with fail
          go_roundw
          case rel => exact ⟨i', K + 1, HI', rfl, by show EMem w _ _ (K + 1) (runs v i'); rw [HR1.out]; exact HM3.out⟩
          case measure => exact HMS.out
        have t6 : decide (p < z) = false := decide_eq_false hpz
        have HYX : Hid ((⟨x.f, i + 1, x.s + z, x.p⟩ : Sp) = spOn x i z) := by show _ = (⟨x.f, i + 1, x.s + z, if x.p < z then z else x.p⟩ : Sp); rw [← HXP.out, if_neg hpz]
        clear hpz
        go_region
        go_wp2_with fail
        go_roundw
        case rel => exact ⟨i', K + 1, HI', rfl, by show EMem w _ _ (K + 1) (runs v i'); rw [HR1.out, ← HYX.out]; exact HM2.out.drew⟩
        case measure => exact HMS.out
    · have T0 : decide ((i : Int) < (n : Int)) = false := by simp <;> omega
      have T0' : decide (i < n) = false := decide_eq_false hlt
      have hin : i = n := by have := Hi.out; omega

      have HIN := Lib.hid hin
      have HN2 : Hid (N ≤ 2000) := by show N ≤ 2000; have hgood := runs_good (v := v) (i := i) (by have := H2.out; omega) (fun k hk => HV.out k (by omega)); rw [HM.out.2.1]; have := hgood.len; have := H2.out; omega
      clear hin hlt
      go_wp2_with fail
      go_ret
      have h := HM.out.post HN2.out
      rw [HIN.out] at h
      exact h
end Go.Proofs.YtfgakaielfekoaaGreatDoor

namespace Go.Proofs.YtfgakaielfekoaaGreatDoor
open Go.RowKit
set_option linter.unusedVariables false
set_option linter.unusedSimpArgs false

set_option maxRecDepth 100000 in
set_option maxHeartbeats 4000000 in
theorem rOf (A : Option Addr) (n c : Nat) (S : Sts) (i : Nat) (h20 : n ≤ 20) (hp : ∀ k, k < n → i < S.PN k ∧ S.PN k ≤ 2000 ∧ 0 ≤ S.P k i ∧ S.P k i ≤ 1125899906842624) (w : World) (ht : StIn w A n S) :
    Calls Tryz.prog 71 #[.slice A n c, .int .i64 (i : Int)] w (OfPost w (runs (fun k => S.P k i) n)) := by
  have HT := Lib.hid ht
  have HP := Lib.hid hp
  have H20 := Lib.hid h20
  have t1 : decide ((10000 : Int) < (n : Int)) = false := decide_eq_false (by omega)
  have t1' : decide (10000 < n) = false := decide_eq_false (by omega)
  have ti : decide ((i : Int) < 0) = false := decide_eq_false (by omega)
  have ki : (0 : Int) ≤ (i : Int) := by omega
  obtain ⟨SI0, si0, sz0, sz1, sz2⟩ := info_parts1 infoI
  have SI1 := Lib.hid si0
  have SI2 := Lib.hid sz0
  have SI3 := Lib.hid sz1
  have SI4 := Lib.hid sz2
  clear si0 sz0 sz1 sz2

  have S1 := Lib.hid fun A c w ht => rBig A n c (fun k => S.P k i) h20 (fun k hk => (hp k hk).2.2) w ht
  have S2 := Lib.hid fun A c w ht => rRuns A n c (fun k => S.P k i) h20 (fun k hk => (hp k hk).2.2) w ht
  clear ht hp h20
  go_enter Tryz.func71, Tryz.ntmps71
  go_wp2_with fail
  generalize hfP : (fun k => S.P k i) = fP at S1 S2 ⊢
  go_loopw [6, 7] (fun o u wr => ∃ j : Nat, Hid (j ≤ n) ∧ u = .int .i64 j ∧ Hid (IMem w wr o j fP)) (fun _ u _ => n - (RowKit.intOf u).toNat)
  case atStart => exact ⟨0, Nat.zero_le _, rfl, World.ownsRow_nil _ _ _ _, Below.refl _ _⟩
  case round =>
    obtain ⟨j, Hi, rfl, HM⟩ := hrel
    obtain ⟨A8, cap8, h8, hnc⟩ := HM.out.form
    subst h8
    by_cases hlt : j < n
    · have T0 : decide ((j : Int) < (n : Int)) = true := by simp <;> omega
      have T0' : decide (j < n) = true := decide_eq_true hlt
      obtain ⟨i', hi'⟩ : ∃ z, z = j + 1 := ⟨_, rfl⟩
      have x0 : IntKind.i64.wrap ((j : Int) + 1) = (i' : Int) := by have := H20.out; rw [IntKind.wrap_i64]; omega
      have HI' : Hid (i' ≤ n) := by show i' ≤ n; omega
      have HMS : Hid (n - (RowKit.intOf (Value.int .i64 (i' : Int))).toNat < n - (RowKit.intOf (Value.int .i64 (j : Int))).toNat) := by show _ < _; simp [RowKit.intOf]; omega
      have k0 : (0 : Int) ≤ (j : Int) := by omega
      have k1 : (j : Int) < (n : Int) := by omega

      obtain ⟨b, off, rfl, hb, hC, hL⟩ := (HT.out.below (Nat.le_refl _) HM.out.2).at hlt
      have hpj := HP.out j hlt
      obtain ⟨bp, op, hA, hbp, cp⟩ := hL.2.1.at (k := i) hpj.1
      have c1 := hC 1 _ rfl
      rw [hA] at c1
      have hfj : S.P j i = fP j := by rw [← hfP]
      rw [hfj] at cp hpj
      have SV := Lib.hid fun w => rVolume (fP j) w
      rw [decide_eq_true hpj.2.2] at SV
      have t2 : decide (S.PN j ≤ i) = false := decide_eq_false (by omega)
      have t2' : decide ((S.PN j : Int) ≤ (i : Int)) = false := decide_eq_false (by omega)
      have t3 : decide (i < S.PN j) = true := decide_eq_true (by omega)
      have t3' : decide ((i : Int) < (S.PN j : Int)) = true := decide_eq_true (by omega)
      have t4 : (i : Int) < (S.PN j : Int) := by omega
      have HI1 : Hid (j + 1 = i') := hi'.symm
      have HN2 : Hid (j ≤ 2000) := by show j ≤ 2000; have := H20.out; omega
      clear hi' hC hL hpj hA hfj hlt
      go_wp2_with (first
        | (go_at_call 114; (with_reducible refine (SV.out _).mono ?_); rintro e w' ⟨rfl, rfl⟩)
        | (at_builtin; refine wpList_append_own_at _ ?ofra (.tmp 41) (.tmp 50) 46 ?ofrb (w.heap.size) 3 SI0 (.int .i64 0) 1 8 Tryz.underlying46 SI1.out SI2.out SI3.out SI4.out ?ofrc ?ofrd (.slice A8 j cap8) (j) (ints fP j) ?ofre (HM.out.1.alloc _) (⟨wr.heap.size, 0, none⟩) (1) (1) ([.int .i64 (fP j)]) ?ofrg (rfl) (World.news_of_block (cs := #[.int .i64 (fP j)]) (t := 3) (fr := (0, 0)) (heap_alloc_new _ _)) ((by simp [Value.oneCell'])) (h63_o HN2.out) (hby_i HN2.out) (Nat.le_trans HM.out.2.size (by simp)) ?ofrh
           case ofra => exact rfl
           case ofrb => exact rfl
           case ofrc => exact rfl
           case ofrd => decide
           case ofre => exact rfl
           case ofrg => exact rfl
           intro v2 w7 hown2 hgrow2 hnil2 hat2
           have HM7 := Lib.hid (HM.out.app hown2 hgrow2)
           clear hown2 hgrow2 hnil2 hat2))
      go_roundw
      case rel => exact ⟨i', HI', rfl, by have h := HM7.out; rw [HI1.out] at h; exact h⟩
      case measure => exact HMS.out
    · have T0 : decide ((j : Int) < (n : Int)) = false := by simp <;> omega
      have T0' : decide (j < n) = false := decide_eq_false hlt
      have hin : j = n := by have := Hi.out; omega

      subst hin
      clear hlt
      have HN2 : Hid (j ≤ 2000) := by show j ≤ 2000; have := H20.out; omega
      have HII := Lib.hid (HM.out.int HN2.out)
      go_wp2_with (first
        | (go_at_call 115
           with_reducible refine (S1.out _ _ _ ?_).mono ?_
           focus (exact HII.out)
           rintro e w2 ⟨rfl, hb2⟩
           have H2 := Lib.hid hb2
           clear hb2)
        | (go_at_call 116
           with_reducible refine (S2.out _ _ _ ?_).mono ?_
           focus (exact HII.out.below (Nat.le_refl _) H2.out)
           rintro e w3 ⟨A3, N3, cap3, rfl, hN3, hc3, hE3, hb3⟩
           have HN3 := Lib.hid hN3
           have HC3 := Lib.hid hc3
           have HE3 := Lib.hid hE3
           have H3 := Lib.hid (below_step HM.out.2 (below_step H2.out hb3))
           clear hb3 hN3 hc3 hE3))
      go_ret2
      subst hfP
      exact ⟨A3, N3, cap3, rfl, HN3.out, HC3.out, HE3.out, H3.out⟩
set_option maxRecDepth 100000 in
set_option maxHeartbeats 4000000 in
theorem rCount (A : Option Addr) (n c : Nat) (E : Evs) (hc : CntOK n E) (w : World) (ht : EvIn w A n E) :
    Calls Tryz.prog 72 #[.slice A n c] w (CntPost w n E) := by
  have HT := Lib.hid ht
  have HC := Lib.hid hc
  have S1 := Lib.hid fun w ht => rright A n c E (by have := hc.n20; omega) w ht true ⟨fun _ => hc.right, fun _ => rfl⟩
  clear ht hc
  go_enter Tryz.func72, Tryz.ntmps72
  go_wp2_with (first
    | (go_at_call 117
       with_reducible refine (S1.out _ ?_).mono ?_
       focus (exact HT.out)
       rintro e w1 ⟨rfl, hb1⟩
       have H1 := Lib.hid hb1
       clear hb1))
  go_loopw [6, 7, 8] (fun s q u wr => ∃ (i : Nat) (z g : Int), Hid (i ≤ n) ∧ u = .int .i64 i ∧ s = .int .i64 z ∧ q = .int .i64 g ∧ Hid (z = psum E.Tot i) ∧ Hid (Below w.heap.size w wr)) (fun _ _ u _ => n - (RowKit.intOf u).toNat)
  case atStart => exact ⟨0, 0, 0, Nat.zero_le _, rfl, rfl, rfl, rfl, H1.out⟩
  case round =>
    obtain ⟨i, z, g, Hi, rfl, rfl, rfl, HZ, HW⟩ := hrel
    by_cases hlt : i < n
    · have T0 : decide ((i : Int) < (n : Int)) = true := by simp <;> omega
      have T0' : decide (i < n) = true := decide_eq_true hlt
      obtain ⟨i', hi'⟩ : ∃ z, z = i + 1 := ⟨_, rfl⟩
      have x0 : IntKind.i64.wrap ((i : Int) + 1) = (i' : Int) := by have := HC.out.n20; rw [IntKind.wrap_i64]; omega
      have HI' : Hid (i' ≤ n) := by show i' ≤ n; omega
      have HMS : Hid (n - (RowKit.intOf (Value.int .i64 (i' : Int))).toNat < n - (RowKit.intOf (Value.int .i64 (i : Int))).toNat) := by show _ < _; simp [RowKit.intOf]; omega
      have k0 : (0 : Int) ≤ (i : Int) := by omega
      have k1 : (i : Int) < (n : Int) := by omega

      obtain ⟨b, off, rfl, hb, c0, c1, c2, c3⟩ := (HT.out.below (Nat.le_refl _) HW.out).at hlt
      have h1 := HC.out.sum i (by omega)
      have h2 := HC.out.sum (i + 1) hlt
      rw [show psum E.Tot (i + 1) = psum E.Tot i + E.Tot i from rfl, ← HZ.out] at h2
      rw [← HZ.out] at h1
      obtain ⟨z', hz'⟩ : ∃ z', z' = z + E.Tot i := ⟨_, rfl⟩
      have x1 : IntKind.i64.wrap (z + E.Tot i) = z' := by rw [IntKind.wrap_i64]; omega
      have x2 : IntKind.i64.wrap (1152921504606846976 - z) = 1152921504606846976 - z := by rw [IntKind.wrap_i64]; omega
      have t1 : decide (1152921504606846976 - z < E.Tot i) = false := decide_eq_false (by omega)
      have HZ' : Hid (z' = psum E.Tot i') := by show z' = _; rw [hi', hz', HZ.out]; rfl
      by_cases hg : g < E.Tot i
      · have t2 : decide (g < E.Tot i) = true := decide_eq_true hg
        clear hi' h1 h2 hz' hlt hg
        go_wp2_with fail
        go_roundw
        case rel => exact ⟨i', z', _, HI', rfl, rfl, rfl, HZ', HW.out⟩
        case measure => exact HMS.out
      · have t2 : decide (g < E.Tot i) = false := decide_eq_false hg
        clear hi' h1 h2 hz' hlt hg
        go_wp2_with fail
        go_roundw
        case rel => exact ⟨i', z', g, HI', rfl, rfl, rfl, HZ', HW.out⟩
        case measure => exact HMS.out
    · have T0 : decide ((i : Int) < (n : Int)) = false := by simp <;> omega
      have T0' : decide (i < n) = false := decide_eq_false hlt
      have hin : i = n := by have := Hi.out; omega

      subst hin
      clear hlt
      go_wp2_with fail
      refine bodyPost_ret (v := .tuple #[.int .i64 i, .int .i64 z, .int .i64 g, .int .i64 0]) (by simp [results, Tryz.results72, go_sem]) rfl ⟨⟨g, ?_⟩, HW.out⟩
      rw [HZ.out]
end Go.Proofs.YtfgakaielfekoaaGreatDoor

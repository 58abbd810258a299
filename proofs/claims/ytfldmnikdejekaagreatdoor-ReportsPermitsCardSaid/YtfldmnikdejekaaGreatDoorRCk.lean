/- The reference's Check. -/
import Derived.Test.YtfldmnikdejekaaGreatDoorRCp
import Derived.Test.YtfldmnikdejekaaGreatDoorAwk
namespace Go.Proofs.YtfldmnikdejekaaGreatDoor
open Go.RowKit Go.Maps
set_option linter.unusedVariables false
set_option linter.unusedSimpArgs false

set_option maxRecDepth 100000 in
set_option maxHeartbeats 8000000 in
theorem rcheck_at (nm nd : ByteArray) (ev vol tot : Int) (hn1 : nm.size ≤ maxLen) (hn2 : nd.size ≤ maxLen) (A : Option Addr) (n c : Nat) (E : Evs) (from_ sec : Int) (h40 : n ≤ 40) (w : World) (hT : EvIn w A n E)
    (hE : yErr (validB nm nd ev vol tot = true) E n from_ sec = 0) :
    Calls Tryz.prog 107 #[.agg #[.string nm, .string nd, .int .i64 ev, .int .i64 vol, .int .i64 tot], .slice A n c, .int .i64 from_, .int .i64 sec] w fun e w' => ∃ (A' : Option Addr) (N cap : Nat), e = .returned (.tuple #[.slice A' N cap, .int .i64 0]) ∧ N = (finds (yrs E from_ sec) E.Tot n ev vol tot).length ∧ FndIn w' A' (finds (yrs E from_ sec) E.Tot n ev vol tot) ∧ Below w.heap.size w w' := by
  have HT := Lib.hid hT
  have H40 := Lib.hid h40
  have SY := Lib.hid fun w hT => ryears nm nd ev vol tot hn1 hn2 A n c E from_ sec h40 w hT
  have HP0 := Lib.hid (perm_blk w nm nd ev vol tot)
  have HW0 : Hid (Below w.heap.size w (w.alloc (Obj.cells #[.string nm, .string nd, .int .i64 ev, .int .i64 vol, .int .i64 tot] 87))) := by show Below _ _ _; (repeat' (first | assumption | exact Below.refl _ _ | exact Below.size (by assumption) | (refine Below.setCell ?_ ?_ _) | (refine Below.alloc ?_ ?_ _) | (refine Below.drew ?_) | (refine below_drewN ?_ _) | (refine Below.trans ?_ (Below.mono ‹Below _ _ _› ?_)) | omega | (simp; done) | (simp; omega) | (simp at *; omega)))
  have HTA : Hid (EvIn (w.alloc (Obj.cells #[.string nm, .string nd, .int .i64 ev, .int .i64 vol, .int .i64 tot] 87)) A n E) := HT.out.below (Nat.le_refl _) HW0.out
  obtain ⟨hok, hrp, hst, hyr⟩ := yErr_zero hE
  have HVL : Hid (limR ev vol tot) := (validB_true.1 hok).2.2
  have HRP := Lib.hid hrp
  have HYR := Lib.hid hyr
  have HE := Lib.hid hE
  obtain ⟨SI0, si0, sz0, sz1, sz2⟩ := info_parts1 infoF
  have SI1 := Lib.hid si0
  have SI2 := Lib.hid sz0
  have SI3 := Lib.hid sz1
  have SI4 := Lib.hid sz2
  clear hE hok hrp hst hyr hT h40 hn1 hn2 si0 sz0 sz1 sz2
  go_enter Tryz.func107, Tryz.ntmps107
  go_wp2_with (first
    | (go_at_call 171
       with_reducible refine (SY.out _ HTA.out).mono ?_
       rintro e w1 ⟨A1, N1, cap1, er, rfl, her, hI, hb1⟩
       obtain rfl : 0 = er := HE.out.symm.trans her.symm
       obtain ⟨hN, hJ⟩ := hI rfl
       clear hI
       obtain rfl := hN.symm
       have HI1 := Lib.hid hJ
       have HW1 := Lib.hid (below_step HW0.out hb1)
       have HP1 := Lib.hid (HP0.out.call hb1)
       clear hJ hb1 her hN))
  have HT1 := Lib.hid (HT.out.below (Nat.le_refl _) HW1.out)
  go_loopw [12, 13, 14, 15] (fun u v x z wr => ∃ i M1 M2 M3 : Nat, Hid (i ≤ n) ∧ z = .int .i64 i ∧ Hid (T3 w1 wr u M1 (kR 1 (fun y => decide (ev < (cnt (yrs E from_ sec) y n : Int))) (yrs E from_ sec) i) v M2 (gFnd E.Tot vol i) x M3 (kR 3 (fun y => decide (tot < sm (yrs E from_ sec) E.Tot y n)) (yrs E from_ sec) i))) (fun _ _ _ z _ => n - (RowKit.intOf z).toNat)
  case atStart => exact ⟨0, 0, 0, 0, Nat.zero_le _, rfl, T3.nil w1⟩
  case round =>
    obtain ⟨i, M1, M2, M3, Hi, rfl, HM⟩ := hrel
    obtain ⟨⟨A1', cp1, h8, hkc1⟩, ⟨A2', cp2, h9, hkc2⟩, ⟨A3', cp3, h10, hkc3⟩⟩ := HM.out.form
    subst h8 h9 h10
    have HKC1 := Lib.hid hkc1
    have HKC2 := Lib.hid hkc2
    have HL1 : Hid (M1 ≤ 300) := by show M1 ≤ 300; have h1 := HM.out.1.2.1; have h2 := kR_len 1 (fun y => decide (ev < (cnt (yrs E from_ sec) y n : Int))) (yrs E from_ sec) i; have := H40.out; have := Hi.out; omega
    have HL2 : Hid (M2 ≤ 300) := by show M2 ≤ 300; have h1 := HM.out.2.1.2.1; have h2 := gFnd_len E.Tot vol i; have := H40.out; have := Hi.out; omega
    have HL3 : Hid (M3 ≤ 300) := by show M3 ≤ 300; have h1 := HM.out.2.2.1.2.1; have h2 := kR_len 3 (fun y => decide (tot < sm (yrs E from_ sec) E.Tot y n)) (yrs E from_ sec) i; have := H40.out; have := Hi.out; omega
    clear hkc1 hkc2 hkc3
    by_cases hlt : i < n
    · have T0 : decide ((i : Int) < (n : Int)) = true := by simp <;> omega
      have T0' : decide (i < n) = true := decide_eq_true hlt
      obtain ⟨i', hi'⟩ : ∃ z, z = i + 1 := ⟨_, rfl⟩
      have x0 : IntKind.i64.wrap ((i : Int) + 1) = (i' : Int) := by have := H40.out; rw [IntKind.wrap_i64]; omega
      have HI' : Hid (i' ≤ n) := by show i' ≤ n; omega
      have HMS : Hid (n - (RowKit.intOf (Value.int .i64 (i' : Int))).toNat < n - (RowKit.intOf (Value.int .i64 (i : Int))).toNat) := by show _ < _; simp [RowKit.intOf]; omega
      have k0 : (0 : Int) ≤ (i : Int) := by omega
      have k1 : (i : Int) < (n : Int) := by omega
      have hTr := HT1.out.below (Nat.le_refl _) HM.out.bel
      have hIr := HI1.out.below (Nat.le_refl _) HM.out.bel
      obtain ⟨eb, eoff, rfl, heb, c0, c1, c2, c3⟩ := hTr.at hlt
      obtain ⟨yb, yoff, rfl, hyb, cy⟩ := hIr.at hlt
      have hyb2 := (HYR.out i hlt).bound
      have SIY := Lib.hid fun w hT hY => rinyear (some ⟨eb, eoff, none⟩) n c E (some ⟨yb, yoff, none⟩) n cap1 (yrs E from_ sec) n (yrs E from_ sec i) H40.out (Nat.le_refl n) HRP.out w hT hY rfl
      have SF2 := Lib.hid fun w => rfinding 2 (i : Int) (by omega) (by have := H40.out; omega) w
      have SF1 := Lib.hid fun w => rfinding 1 (yrs E from_ sec i) (by omega) (by omega) w
      have SF3 := Lib.hid fun w => rfinding 3 (yrs E from_ sec i) (by omega) (by omega) w
      have HLT := Lib.hid hlt
      have HI1' := Lib.hid hi'
      obtain ⟨p0, p1, p2, p3, p4⟩ := perm_cells (HP1.out.call HM.out.bel)
      clear hlt hi' hTr hIr hyb2
      go_upto_region 8 with fail
      obtain ⟨b, hb⟩ : ∃ z, z = decide (vol < E.Tot i) := ⟨_, rfl⟩
      have t1 := hb.symm
      have HBV := Lib.hid hb
      clear hb
      go_quiet (fail)
      go_upto_if 42 with fail
      have HMq := Lib.hid (HM.out.call (below_drewN (Below.refl _ wr) nq))
      generalize wr.drewN nq = wq at HMq ⊢
      go_cut [13] from 43 to 47 (fun v wx => ∃ M2' : Nat, Hid (M2' ≤ 300) ∧ T3 w1 wx (.slice A1' M1 cp1) M1 (kR 1 (fun y => decide (ev < (cnt (yrs E from_ sec) y n : Int))) (yrs E from_ sec) i) v M2' (gFnd E.Tot vol (i + 1)) (.slice A3' M3 cp3) M3 (kR 3 (fun y => decide (tot < sm (yrs E from_ sec) E.Tot y n)) (yrs E from_ sec) i))
      case first =>
        cases b with
        | true =>
          have HGF := Lib.hid (gFnd_hit (of_decide_eq_true HBV.out.symm))
          go_wp2_with (first
            | (go_at_call 172
               with_reducible refine (SF2.out _).mono ?_
               rintro e w3 ⟨rfl, hbI⟩
               have HM3 := Lib.hid (HMq.out.call hbI)
               clear hbI)
            | (at_builtin; refine wpList_append_own_at _ ?paa (.tmp 43) (.tmp 46) 93 ?pab (w1.heap.size) 162 SI0 (.agg #[.int .i64 0, .string ByteArray.empty]) 2 24 Tryz.underlying93 SI1.out SI2.out SI3.out SI4.out ?pac ?pad (.slice A2' M2 cp2) (M2) (fc (gFnd E.Tot vol i)) ?pae (HM3.out.2.1.1.alloc _) (⟨w3.heap.size, 0, none⟩) (1) (1) ([.int .i64 2, .string (fnm (i : Int))]) ?pag (rfl) (World.news_of_block (cs := #[.int .i64 2, .string (fnm (i : Int))]) (t := 162) (fr := (0, 0)) (heap_alloc_new _ _)) ((by simp [Value.oneCell'])) (h63_f HL2.out (by omega)) (hby_f HL2.out (by omega)) (Nat.le_trans HM3.out.bel.size (by simp)) ?pah
               case paa => exact rfl
               case pab => exact rfl
               case pac => exact rfl
               case pad => decide
               case pae => exact rfl
               case pag => exact rfl
               intro v4 w4 hown2 hgrow2 hnil2 hat2
               have HM4 := Lib.hid (HM3.out.app2 hown2 hgrow2 hat2)
               clear hown2 hgrow2 hnil2 hat2))
          go_meet
          exact ⟨M2 + 1, by show M2 + 1 ≤ 300; have h1 := HM.out.2.1.2.1; have h2 := gFnd_len E.Tot vol i; have := H40.out; have := Hi.out; omega, by rw [HGF.out]; exact HM4.out⟩
        | false =>
          have HGF := Lib.hid (gFnd_miss (of_decide_eq_false HBV.out.symm))
          go_wp2_with fail
          go_meet
          exact ⟨M2, HL2, by rw [HGF.out]; exact HMq.out⟩
      case rest =>
        rename_i v2c
        obtain ⟨M2', HL2', hm⟩ := hcut
        generalize wc = wz at hm ⊢
        have HZ := Lib.hid hm
        obtain ⟨A2', cp2', h8, hkc2⟩ := hm.2.1.form
        subst h8
        clear hm HM HL2 HKC2 p0 p1 p2 p3 p4 heb c0 c1 c2 c3 hyb cy
        have HKC2 := Lib.hid hkc2
        clear hkc2
        obtain ⟨p0, p1, p2, p3, p4⟩ := perm_cells (HP1.out.call HZ.out.bel)
        obtain ⟨heb, c0, c1, c2, c3⟩ := (HT1.out.below (Nat.le_refl _) HZ.out.bel).cellAt HLT.out
        obtain ⟨hyb, cy⟩ := (HI1.out.below (Nat.le_refl _) HZ.out.bel).cellAt HLT.out
        obtain ⟨nb, hnb⟩ : ∃ z, z = decide (¬ newAt (yrs E from_ sec) i) := ⟨_, rfl⟩
        have HNB := Lib.hid hnb
        go_upto_region 10 with fail
        go_cut [61] from 48 to 61 (fun z wx => z = .bool nb ∧ T3 w1 wx (.slice A1' M1 cp1) M1 (kR 1 (fun y => decide (ev < (cnt (yrs E from_ sec) y n : Int))) (yrs E from_ sec) i) (.slice A2' M2' cp2') M2' (gFnd E.Tot vol (i + 1)) (.slice A3' M3 cp3) M3 (kR 3 (fun y => decide (tot < sm (yrs E from_ sec) E.Tot y n)) (yrs E from_ sec) i))
        case first =>
          by_cases hi0 : i = 0
          · have T1 : decide ((0 : Int) < (i : Int)) = false := decide_eq_false (by omega)
            have T1' : decide (0 < i) = false := decide_eq_false (by omega)
            obtain rfl : nb = false := by rw [hnb]; exact decide_eq_false (fun h => h (.inl hi0))
            clear hnb hi0
            go_quiet (fail)
            go_wp2_with fail
            go_meet
            exact ⟨by first | rfl | (simp [*]; done), HZ.out.call (below_drewN (Below.refl _ _) _)⟩
          · have T1 : decide ((0 : Int) < (i : Int)) = true := decide_eq_true (by omega)
            have T1' : decide (0 < i) = true := decide_eq_true (by omega)
            obtain ⟨j, hj⟩ : ∃ z, z = i - 1 := ⟨_, rfl⟩
            have xk : IntKind.i64.wrap ((i : Int) - 1) = (j : Int) := by have := H40.out; rw [IntKind.wrap_i64]; omega
            have j0 : (0 : Int) ≤ (j : Int) := by omega
            have j1 : (j : Int) < (n : Int) := by omega
            obtain ⟨_, cj⟩ := (HI1.out.below (Nat.le_refl _) HZ.out.bel).cellAt (show j < n by omega)
            have te : (yrs E from_ sec i == yrs E from_ sec j) = nb := by
              rw [hnb, hj]
              by_cases h : yrs E from_ sec i = yrs E from_ sec (i - 1)
              · have hn : ¬ newAt (yrs E from_ sec) i := fun g => g.elim hi0 (fun g => g h)
                rw [decide_eq_true hn]; simp [h]
              · have hn : ¬ ¬ newAt (yrs E from_ sec) i := fun g => g (.inr h)
                rw [decide_eq_false hn]; simp [h]
            clear hnb hi0 hj
            go_quiet (fail)
            go_wp2_with fail
            go_meet
            exact ⟨by first | rfl | (simp [*]; done), HZ.out.call (below_drewN (Below.refl _ _) _)⟩
        case rest =>
          obtain ⟨rfl, hm⟩ := hcut
          generalize wc = wv at hm ⊢
          have HV := Lib.hid hm
          clear hm hnb HZ p0 p1 p2 p3 p4 heb c0 c1 c2 c3 hyb cy
          cases nb with
          | true =>
            have hold : ¬ newAt (yrs E from_ sec) i := of_decide_eq_true HNB.out.symm
            have HR : Hid (T3 w1 wv (.slice A1' M1 cp1) M1 (kR 1 (fun y => decide (ev < (cnt (yrs E from_ sec) y n : Int))) (yrs E from_ sec) i') (.slice A2' M2' cp2') M2' (gFnd E.Tot vol i') (.slice A3' M3 cp3) M3 (kR 3 (fun y => decide (tot < sm (yrs E from_ sec) E.Tot y n)) (yrs E from_ sec) i')) := by
              show T3 _ _ _ _ _ _ _ _ _ _ _
              rw [HI1'.out, kR_old hold, kR_old hold]
              exact HV.out
            clear hold
            go_wp2_with fail
            go_roundw
            case rel => exact ⟨i', _, _, _, HI', rfl, HR⟩
            case measure => exact HMS.out
          | false =>
            have hnew : newAt (yrs E from_ sec) i := Decidable.not_not.1 (of_decide_eq_false HNB.out.symm)
            have HNEW := Lib.hid hnew
            clear hnew
            obtain ⟨CN, hCN⟩ : ∃ z : Int, z = (cnt (yrs E from_ sec) (yrs E from_ sec i) n : Int) := ⟨_, rfl⟩
            obtain ⟨SM, hSM⟩ : ∃ z, z = capR (sm (yrs E from_ sec) E.Tot (yrs E from_ sec i) n) := ⟨_, rfl⟩
            rw [← hCN, ← hSM] at SIY
            obtain ⟨b1, hb1⟩ : ∃ z, z = decide (ev < CN) := ⟨_, rfl⟩
            obtain ⟨b3, hb3⟩ : ∃ z, z = decide (tot < SM) := ⟨_, rfl⟩
            have t4 := hb1.symm
            have t5 := hb3.symm
            have HB1 : Hid (decide (ev < (cnt (yrs E from_ sec) (yrs E from_ sec i) n : Int)) = b1) := by show _ = _; rw [hb1, hCN]
            have HB3 : Hid (decide (tot < sm (yrs E from_ sec) E.Tot (yrs E from_ sec i) n) = b3) := by
              show _ = _
              have hlim := HVL.out
              unfold limR at hlim
              have e : (tot < sm (yrs E from_ sec) E.Tot (yrs E from_ sec i) n) = (tot < SM) := propext (by rw [hSM]; exact (capR_gt hlim.2.2.2.2.2).symm)
              rw [hb3]
              simp only [e]
            clear hCN hSM hb1 hb3
            have HTv := Lib.hid (HT1.out.below (Nat.le_refl _) HV.out.bel)
            have HIv := Lib.hid (HI1.out.below (Nat.le_refl _) HV.out.bel)
            obtain ⟨p0, p1, p2, p3, p4⟩ := perm_cells (HP1.out.call HV.out.bel)
            obtain ⟨heb, c0, c1, c2, c3⟩ := (HT1.out.below (Nat.le_refl _) HV.out.bel).cellAt HLT.out
            obtain ⟨hyb, cy⟩ := (HI1.out.below (Nat.le_refl _) HV.out.bel).cellAt HLT.out
            go_upto_if 77 with (first
              | (go_at_call 173
                 with_reducible refine (SIY.out _ HTv.out HIv.out).mono ?_
                 rintro e w' ⟨rfl, rfl⟩))
            go_cut [12] from 78 to 85 (fun u wx => ∃ M1' : Nat, Hid (M1' ≤ 300) ∧ T3 w1 wx u M1' (kR 1 (fun y => decide (ev < (cnt (yrs E from_ sec) y n : Int))) (yrs E from_ sec) (i + 1)) (.slice A2' M2' cp2') M2' (gFnd E.Tot vol (i + 1)) (.slice A3' M3 cp3) M3 (kR 3 (fun y => decide (tot < sm (yrs E from_ sec) E.Tot y n)) (yrs E from_ sec) i))
            case first =>
              cases b1 with
              | true =>
                have HGF := Lib.hid (kR_hit (kind := 1) (p := fun y => decide (ev < (cnt (yrs E from_ sec) y n : Int))) HNEW.out HB1.out)
                go_wp2_with (first
                  | (go_at_call 172
                     with_reducible refine (SF1.out _).mono ?_
                     rintro e w3 ⟨rfl, hbI⟩
                     have HM3 := Lib.hid (HV.out.call hbI)
                     clear hbI)
                  | (at_builtin; refine wpList_append_own_at _ ?pba (.tmp 78) (.tmp 84) 93 ?pbb (w1.heap.size) 162 SI0 (.agg #[.int .i64 0, .string ByteArray.empty]) 2 24 Tryz.underlying93 SI1.out SI2.out SI3.out SI4.out ?pbc ?pbd (.slice A1' M1 cp1) (M1) (fc (kR 1 (fun y => decide (ev < (cnt (yrs E from_ sec) y n : Int))) (yrs E from_ sec) i)) ?pbe (HM3.out.1.1.alloc _) (⟨w3.heap.size, 0, none⟩) (1) (1) ([.int .i64 1, .string (fnm (yrs E from_ sec i))]) ?pbg (rfl) (World.news_of_block (cs := #[.int .i64 1, .string (fnm (yrs E from_ sec i))]) (t := 162) (fr := (0, 0)) (heap_alloc_new _ _)) ((by simp [Value.oneCell'])) (h63_f HL1.out (by omega)) (hby_f HL1.out (by omega)) (Nat.le_trans HM3.out.bel.size (by simp)) ?pbh
                     case pba => exact rfl
                     case pbb => exact rfl
                     case pbc => exact rfl
                     case pbd => decide
                     case pbe => exact rfl
                     case pbg => exact rfl
                     intro v4 w4 hown2 hgrow2 hnil2 hat2
                     have HM4 := Lib.hid (HM3.out.app1 hown2 hgrow2 hat2)
                     clear hown2 hgrow2 hnil2 hat2))
                go_meet
                exact ⟨M1 + 1, by show M1 + 1 ≤ 300; have h1 := HV.out.1.2.1; have h2 := kR_len 1 (fun y => decide (ev < (cnt (yrs E from_ sec) y n : Int))) (yrs E from_ sec) i; have := H40.out; have := Hi.out; omega, by rw [HGF.out]; exact HM4.out⟩
              | false =>
                have HGF := Lib.hid (kR_miss (kind := 1) (p := fun y => decide (ev < (cnt (yrs E from_ sec) y n : Int))) HNEW.out HB1.out)
                go_wp2_with fail
                go_meet
                exact ⟨M1, HL1, by rw [HGF.out]; exact HV.out⟩
            case rest =>
              obtain ⟨M1', HL1', hm⟩ := hcut
              generalize wc = wy at hm ⊢
              have HY := Lib.hid hm
              obtain ⟨A1', cp1', h8, hkc1⟩ := hm.1.form
              subst h8
              clear hm hkc1 HV HL1 HKC1 p0 p1 p2 p3 p4 heb c0 c1 c2 c3 hyb cy
              obtain ⟨p0, p1, p2, p3, p4⟩ := perm_cells (HP1.out.call HY.out.bel)
              obtain ⟨heb, c0, c1, c2, c3⟩ := (HT1.out.below (Nat.le_refl _) HY.out.bel).cellAt HLT.out
              obtain ⟨hyb, cy⟩ := (HI1.out.below (Nat.le_refl _) HY.out.bel).cellAt HLT.out
              go_upto_if 89 with fail
              cases b3 with
              | true =>
                have HGF := Lib.hid (kR_hit (kind := 3) (p := fun y => decide (tot < sm (yrs E from_ sec) E.Tot y n)) HNEW.out HB3.out)
                go_wp2_with (first
                  | (go_at_call 172
                     with_reducible refine (SF3.out _).mono ?_
                     rintro e w5 ⟨rfl, hbI⟩
                     have HM5 := Lib.hid (HY.out.call hbI)
                     clear hbI)
                  | (at_builtin; refine wpList_append_own_at _ ?pca (.tmp 90) (.tmp 96) 93 ?pcb (w1.heap.size) 162 SI0 (.agg #[.int .i64 0, .string ByteArray.empty]) 2 24 Tryz.underlying93 SI1.out SI2.out SI3.out SI4.out ?pcc ?pcd (.slice A3' M3 cp3) (M3) (fc (kR 3 (fun y => decide (tot < sm (yrs E from_ sec) E.Tot y n)) (yrs E from_ sec) i)) ?pce (HM5.out.2.2.1.1.alloc _) (⟨w5.heap.size, 0, none⟩) (1) (1) ([.int .i64 3, .string (fnm (yrs E from_ sec i))]) ?pcg (rfl) (World.news_of_block (cs := #[.int .i64 3, .string (fnm (yrs E from_ sec i))]) (t := 162) (fr := (0, 0)) (heap_alloc_new _ _)) ((by simp [Value.oneCell'])) (h63_f HL3.out (by omega)) (hby_f HL3.out (by omega)) (Nat.le_trans HM5.out.bel.size (by simp)) ?pch
                     case pca => exact rfl
                     case pcb => exact rfl
                     case pcc => exact rfl
                     case pcd => decide
                     case pce => exact rfl
                     case pcg => exact rfl
                     intro v6 w6 hown2 hgrow2 hnil2 hat2
                     have HM6 := Lib.hid (HM5.out.app3 hown2 hgrow2 hat2)
                     clear hown2 hgrow2 hnil2 hat2))
                have HR : Hid (T3 w1 w6 (.slice A1' M1' cp1') M1' (kR 1 (fun y => decide (ev < (cnt (yrs E from_ sec) y n : Int))) (yrs E from_ sec) i') (.slice A2' M2' cp2') M2' (gFnd E.Tot vol i') v6 (M3 + 1) (kR 3 (fun y => decide (tot < sm (yrs E from_ sec) E.Tot y n)) (yrs E from_ sec) i')) := by
                  show T3 _ _ _ _ _ _ _ _ _ _ _
                  rw [HI1'.out, HGF.out]
                  exact HM6.out
                go_roundw
                case rel => exact ⟨i', _, _, _, HI', rfl, HR⟩
                case measure => exact HMS.out
              | false =>
                have HGF := Lib.hid (kR_miss (kind := 3) (p := fun y => decide (tot < sm (yrs E from_ sec) E.Tot y n)) HNEW.out HB3.out)
                go_wp2_with fail
                have HR : Hid (T3 w1 wy (.slice A1' M1' cp1') M1' (kR 1 (fun y => decide (ev < (cnt (yrs E from_ sec) y n : Int))) (yrs E from_ sec) i') (.slice A2' M2' cp2') M2' (gFnd E.Tot vol i') (.slice A3' M3 cp3) M3 (kR 3 (fun y => decide (tot < sm (yrs E from_ sec) E.Tot y n)) (yrs E from_ sec) i')) := by
                  show T3 _ _ _ _ _ _ _ _ _ _ _
                  rw [HI1'.out, HGF.out]
                  exact HY.out
                go_roundw
                case rel => exact ⟨i', _, _, _, HI', rfl, HR⟩
                case measure => exact HMS.out
    · have hin : i = n := by have := Hi.out; omega
      have T0 : decide ((i : Int) < (n : Int)) = false := by simp <;> omega
      have T0' : decide (i < n) = false := decide_eq_false hlt
      have HFI : Hid (finds (yrs E from_ sec) E.Tot n ev vol tot = kR 1 (fun y => decide (ev < (cnt (yrs E from_ sec) y n : Int))) (yrs E from_ sec) i ++ gFnd E.Tot vol i ++ kR 3 (fun y => decide (tot < sm (yrs E from_ sec) E.Tot y n)) (yrs E from_ sec) i) := by show _ = _; rw [hin]; exact finds_is _ _ _ _ _ _
      have h1 := HM.out.1.2.1
      have h2 := HM.out.2.1.2.1
      have h3 := HM.out.2.2.1.2.1
      have g1 := kR_len 1 (fun y => decide (ev < (cnt (yrs E from_ sec) y n : Int))) (yrs E from_ sec) i
      have g2 := gFnd_len E.Tot vol i
      have g3 := kR_len 3 (fun y => decide (tot < sm (yrs E from_ sec) E.Tot y n)) (yrs E from_ sec) i
      have HSUM : Hid (M1 + M2 + M3 ≤ 300) := by show _ ≤ _; have := H40.out; have := Hi.out; omega
      have HSU2 : Hid (M1 + M2 ≤ 300) := by show _ ≤ _; have := H40.out; have := Hi.out; omega
      generalize kR 1 (fun y => decide (ev < (cnt (yrs E from_ sec) y n : Int))) (yrs E from_ sec) i = L1 at HM HFI h1 g1
      generalize gFnd E.Tot vol i = L2 at HM HFI h2 g2
      generalize kR 3 (fun y => decide (tot < sm (yrs E from_ sec) E.Tot y n)) (yrs E from_ sec) i = L3 at HM HFI h3 g3
      have HN2 := Lib.hid h2
      have HN3 := Lib.hid h3
      clear hlt hin h1 h2 h3 g1 g2 g3
      have hv2 := (HM.out.2.1.fnd HL2.out)
      have hv3 := (HM.out.2.2.1.fnd HL3.out)
      rcases hv2.2 with ⟨hA2, hl2⟩ | ⟨b2, o2, hA2, ht2, _⟩
      · have hM2 : M2 = 0 := by have := HN2.out; rw [hl2] at this; exact this
        subst hA2 hl2 hM2
        have hsrc2 := Lib.hid (fun (ty : TypeId) => run_append_nothing (P := Tryz.prog) wr 93 93 ty 162 SI0 Tryz.underlying93 SI1.out A1' M1 cp1 HKC1.out (.slice none 0 cp2) (Src.ofNil _ Tryz.underlying93 cp2))
        rcases hv3.2 with ⟨hA3, hl3⟩ | ⟨b3, o3, hA3, ht3, _⟩
        · have hM3 : M3 = 0 := by have := HN3.out; rw [hl3] at this; exact this
          subst hA3 hl3 hM3
          have hsrc3 := Lib.hid (fun (ty : TypeId) => run_append_nothing (P := Tryz.prog) wr 93 93 ty 162 SI0 Tryz.underlying93 SI1.out A1' M1 cp1 HKC1.out (.slice none 0 cp3) (Src.ofNil _ Tryz.underlying93 cp3))
          clear hv2 hv3
          go_wp2_with (first
            | (at_builtin; refine Lib.wpList_append_run _ rfl _ _ _ _ rfl _ _ rfl rfl _ _ (hsrc2.out _) ?_)
            | (at_builtin; refine Lib.wpList_append_run _ rfl _ _ _ _ rfl _ _ rfl rfl _ _ (hsrc3.out _) ?_))
          go_ret2
          have HF := HFI.out
          rw [List.append_nil, List.append_nil] at HF
          rw [HF]
          exact ⟨A1', M1, cp1, rfl, HM.out.1.2.1, HM.out.1.fnd HL1.out, below_step HW1.out HM.out.bel⟩
        · subst hA3
          have HT3 := Lib.hid ht3
          clear hv2 hv3 ht3
          go_wp2_with (first
            | (at_builtin; refine wpList_append_own_at _ ?qaa (.tmp 100) (.tmp 101) 93 ?qab (w1.heap.size) 162 SI0 (.agg #[.int .i64 0, .string ByteArray.empty]) 2 24 Tryz.underlying93 SI1.out SI2.out SI3.out SI4.out ?qac ?qad (.slice A1' M1 cp1) (M1) (fc (L1)) ?qae (HM.out.1.1) (⟨b3, o3, none⟩) (M3) (cp3) (fc L3) ?qag (by rw [fc_len, ← HN3.out]) (fnd_news HT3.out) (fc_cells _) (h63_f HL1.out HL3.out) (hby_f HL1.out HL3.out) (HM.out.1.2.2.size) ?qah
               case qaa => exact rfl
               case qab => exact rfl
               case qac => exact rfl
               case qad => decide
               case qae => exact rfl
               case qag => exact rfl
               intro v5 w5 hown2 hgrow2 hnil2 hat2
               have HR := Lib.hid (HM.out.1.more HN3.out hown2 hgrow2)
               obtain ⟨B5, d5, h5, hkc5⟩ := HR.out.form
               subst h5
               clear hown2 hgrow2 hnil2 hat2)
            | (at_builtin; refine Lib.wpList_append_run _ rfl _ _ _ _ rfl _ _ rfl rfl _ _ (hsrc2.out _) ?_))
          go_ret2
          have HF := HFI.out
          rw [List.append_nil] at HF
          rw [HF]
          exact ⟨B5, M1 + M3, d5, rfl, HR.out.2.1, HR.out.fnd HSUM.out, below_step HW1.out HR.out.2.2⟩
      · subst hA2
        have HT2' := Lib.hid ht2
        have HAP := Lib.hid HM.out.2.2.2.2.1
        rcases hv3.2 with ⟨hA3, hl3⟩ | ⟨b3, o3, hA3, ht3, _⟩
        · have hM3 : M3 = 0 := by have := HN3.out; rw [hl3] at this; exact this
          subst hA3 hl3 hM3
          clear hv2 hv3 ht2
          go_wp2_with (first
            | (at_builtin; refine wpList_append_own_at _ ?qba (.tmp 98) (.tmp 99) 93 ?qbb (w1.heap.size) 162 SI0 (.agg #[.int .i64 0, .string ByteArray.empty]) 2 24 Tryz.underlying93 SI1.out SI2.out SI3.out SI4.out ?qbc ?qbd (.slice A1' M1 cp1) (M1) (fc (L1)) ?qbe (HM.out.1.1) (⟨b2, o2, none⟩) (M2) (cp2) (fc L2) ?qbg (by rw [fc_len, ← HN2.out]) (fnd_news HT2'.out) (fc_cells _) (h63_f HL1.out HL2.out) (hby_f HL1.out HL2.out) (HM.out.1.2.2.size) ?qbh
               case qba => exact rfl
               case qbb => exact rfl
               case qbc => exact rfl
               case qbd => decide
               case qbe => exact rfl
               case qbg => exact rfl
               intro v5 w5 hown2 hgrow2 hnil2 hat2
               have HR := Lib.hid (HM.out.1.more HN2.out hown2 hgrow2)
               obtain ⟨B5, d5, h5, hkc5⟩ := HR.out.form
               subst h5
               have hsrc3 := Lib.hid (fun (ty : TypeId) => run_append_nothing (P := Tryz.prog) w5 93 93 ty 162 SI0 Tryz.underlying93 SI1.out B5 (M1 + M2) d5 hkc5 (.slice none 0 cp3) (Src.ofNil _ Tryz.underlying93 cp3))
               clear hkc5
               clear hown2 hgrow2 hnil2 hat2)
            | (at_builtin; refine Lib.wpList_append_run _ rfl _ _ _ _ rfl _ _ rfl rfl _ _ (hsrc3.out _) ?_))
          go_ret2
          have HF := HFI.out
          rw [List.append_nil] at HF
          rw [HF]
          exact ⟨B5, M1 + M2, d5, rfl, HR.out.2.1, HR.out.fnd HSU2.out, below_step HW1.out HR.out.2.2⟩
        · subst hA3
          clear hv2 hv3 ht2 ht3
          go_wp2_with (first
            | (at_builtin; refine wpList_append_own_at _ ?qca (.tmp 98) (.tmp 99) 93 ?qcb (w1.heap.size) 162 SI0 (.agg #[.int .i64 0, .string ByteArray.empty]) 2 24 Tryz.underlying93 SI1.out SI2.out SI3.out SI4.out ?qcc ?qcd (.slice A1' M1 cp1) (M1) (fc (L1)) ?qce (HM.out.1.1) (⟨b2, o2, none⟩) (M2) (cp2) (fc L2) ?qcg (by rw [fc_len, ← HN2.out]) (fnd_news HT2'.out) (fc_cells _) (h63_f HL1.out HL2.out) (hby_f HL1.out HL2.out) (HM.out.1.2.2.size) ?qch
               case qca => exact rfl
               case qcb => exact rfl
               case qcc => exact rfl
               case qcd => decide
               case qce => exact rfl
               case qcg => exact rfl
               intro v5 w5 hown2 hgrow2 hnil2 hat2
               have HR := Lib.hid (HM.out.1.more HN2.out hown2 hgrow2)
               have HX5 := HM.out.2.2.1.apart_kept hgrow2 HAP.out HR.out.2.2
               have HT5 := Lib.hid ((HX5.fnd HL3.out).atS)
               clear HX5
               obtain ⟨B5, d5, h5, hkc5⟩ := HR.out.form
               subst h5
               clear hown2 hgrow2 hnil2 hat2)
            | (at_builtin; refine wpList_append_own_at _ ?qda (.tmp 100) (.tmp 101) 93 ?qdb (w1.heap.size) 162 SI0 (.agg #[.int .i64 0, .string ByteArray.empty]) 2 24 Tryz.underlying93 SI1.out SI2.out SI3.out SI4.out ?qdc ?qdd (.slice B5 (M1 + M2) d5) (M1 + M2) (fc (L1 ++ L2)) ?qde (HR.out.1) (⟨b3, o3, none⟩) (M3) (cp3) (fc L3) ?qdg (by rw [fc_len, ← HN3.out]) (fnd_news HT5.out) (fc_cells _) (h63_f HSU2.out HL3.out) (hby_f HSU2.out HL3.out) (HR.out.2.2.size) ?qdh
               case qda => exact rfl
               case qdb => exact rfl
               case qdc => exact rfl
               case qdd => decide
               case qde => exact rfl
               case qdg => exact rfl
               intro v6 w6 hown2 hgrow2 hnil2 hat2
               have HQ := Lib.hid (HR.out.more HN3.out hown2 hgrow2)
               obtain ⟨B6, d6, h6, hkc6⟩ := HQ.out.form
               subst h6
               clear hown2 hgrow2 hnil2 hat2))
          go_ret2
          rw [HFI.out]
          exact ⟨B6, M1 + M2 + M3, d6, rfl, HQ.out.2.1, HQ.out.fnd HSUM.out, below_step HW1.out HQ.out.2.2⟩
set_option maxRecDepth 100000 in
theorem rcheck (nm nd : ByteArray) (ev vol tot : Int) (hn1 : nm.size ≤ maxLen) (hn2 : nd.size ≤ maxLen) (A : Option Addr) (n c : Nat) (E : Evs) (from_ sec : Int) (h40 : n ≤ 40) (w : World) (hT : EvIn w A n E)
    (er1 : Int) (he1 : er1 = yErr (validB nm nd ev vol tot = true) E n from_ sec) :
    Calls Tryz.prog 107 #[.agg #[.string nm, .string nd, .int .i64 ev, .int .i64 vol, .int .i64 tot], .slice A n c, .int .i64 from_, .int .i64 sec] w (ChkPost w (validB nm nd ev vol tot = true) E n from_ sec ev vol tot er1) := by
  by_cases hE : er1 = 0
  · refine (rcheck_at nm nd ev vol tot hn1 hn2 A n c E from_ sec h40 w hT (he1.symm.trans hE)).mono ?_
    rintro e w' ⟨A', N, cap, rfl, h1, h2, h3⟩
    have hc : chkL (validB nm nd ev vol tot = true) E n from_ sec ev vol tot = finds (yrs E from_ sec) E.Tot n ev vol tot := by unfold chkL; rw [if_pos (he1.symm.trans hE)]
    exact ⟨A', N, cap, by rw [hE], by rw [hc]; exact h1, by rw [hc]; exact h2, h3⟩
  · have hc : chkL (validB nm nd ev vol tot = true) E n from_ sec ev vol tot = [] := by unfold chkL; rw [if_neg (by rw [← he1]; exact hE)]
    have HC := Lib.hid hc
    have SY := Lib.hid fun w hT => ryears nm nd ev vol tot hn1 hn2 A n c E from_ sec h40 w hT
    have HW0 : Hid (Below w.heap.size w (w.alloc (Obj.cells #[.string nm, .string nd, .int .i64 ev, .int .i64 vol, .int .i64 tot] 87))) := by show Below _ _ _; (repeat' (first | assumption | exact Below.refl _ _ | exact Below.size (by assumption) | (refine Below.setCell ?_ ?_ _) | (refine Below.alloc ?_ ?_ _) | (refine Below.drew ?_) | (refine below_drewN ?_ _) | (refine Below.trans ?_ (Below.mono ‹Below _ _ _› ?_)) | omega | (simp; done) | (simp; omega) | (simp at *; omega)))
    have HTA : Hid (EvIn (w.alloc (Obj.cells #[.string nm, .string nd, .int .i64 ev, .int .i64 vol, .int .i64 tot] 87)) A n E) := hT.below (Nat.le_refl _) HW0.out
    have HE := Lib.hid he1
    have n1 : (er1 == 0) = false := by simp [hE]
    clear he1 hE hT h40 hn1 hn2 hc
    go_enter Tryz.func107, Tryz.ntmps107
    go_wp2_with (first
      | (go_at_call 171
         with_reducible refine (SY.out _ HTA.out).mono ?_
         rintro e w1 ⟨A1, N1, cap1, er, rfl, her, hI, hb1⟩
         obtain rfl : er1 = er := HE.out.trans her.symm
         have HW1 := Lib.hid (below_step HW0.out hb1)
         clear hI hb1 her))
    go_ret2
    exact ⟨none, 0, 0, rfl, by rw [HC.out]; rfl, ⟨by rw [HC.out]; simp, .inl ⟨rfl, HC.out⟩⟩, HW1.out⟩
end Go.Proofs.YtfldmnikdejekaaGreatDoor

/- The walk of the law PermitYears. -/
import Derived.Test.YtgbnbafigjijmaaDoorYwP
import Derived.Test.YtgbnbafigjijmaaDoorYwM
namespace Go.Proofs.YtgbnbafigjijmaaDoor
open Go.RowKit Go.Maps
set_option linter.unusedVariables false
set_option linter.unusedSimpArgs false

theorem VM.keepB {w wr w' : World} {u : Value} {N : Nat} {L : List Int} {g : Nat} {t : TypeId} {cs : Array Value} {o : Obj} (h : VM w wr u N L) (hB : Blk wr g t cs) (ht : 3 ≠ t) (hg : (wr.alloc o).grownBy w' u.ownBlock) : Blk w' g t cs :=
  (hB.alloc o).grown hg (fun e => own_blk_ne h.1 hB ht e.symm)
theorem VM.neB {w wr : World} {g2 cap N : Nat} {L : List Int} {g : Nat} {t : TypeId} {cs : Array Value} (h : VM w wr (.slice (some ⟨g2, 0, none⟩) N cap) N L) (hB : Blk wr g t cs) (ht : 3 ≠ t) : g ≠ g2 := fun e => own_blk_ne h.1 hB ht (by simp [Value.ownBlock, e])
theorem last_at {I : List Int} {z : Int} {f : Int → Int} : ((I ++ [z]).map f).getD I.length 0 = f z := by simp [List.getD]
theorem last_at' {I : List Int} {z : Int} : (I ++ [z]).getD I.length 0 = z := by simp [List.getD]
set_option maxRecDepth 100000 in
set_option maxHeartbeats 8000000 in
theorem years_walk (nm nd : ByteArray) (ev vol tot : Int) (hn1 : nm.size ≤ maxLen) (hn2 : nd.size ≤ maxLen) (A : Option Addr) (n c : Nat) (E : Evs) (from_ sec : Int) (w : World) (hE : Env w) (hT : EvIn w A n E) :
    Calls Tryd.prog 3 #[.agg #[.string nm, .string nd, .int .i64 ev, .int .i64 vol, .int .i64 tot], .slice A n c, .int .i64 from_, .int .i64 sec] w fun e w' => e = .returned (.bool true) ∧ Below w.heap.size w w' := by
  have SA := Lib.hid fun w hE => caw w hE
  have SL := Lib.hid fun w => tlong nm nd ev vol tot w
  have H0 := Lib.hid (LCtx.start w #[.string nm, .string nd, .int .i64 ev, .int .i64 vol, .int .i64 tot] hE hT)
  by_cases hlong : 60 < nm.size ∨ 60 < nd.size
  · rw [decide_eq_true hlong] at SL
    clear hlong hE hT
    go_enter Tryd.func3, Tryd.ntmps3
    go_wp2_with (first
      | (go_at_call 9
         with_reducible refine (SA.out _ H0.out.env).mono ?_
         rintro e w1 ⟨rfl, hb1⟩
         have H1 := Lib.hid (H0.out.call hb1)
         obtain ⟨p0, p1, p2, p3, p4⟩ := perm_cells H1.out.blk
         clear hb1)
      | (go_at_call 10
         with_reducible refine (SL.out _).mono ?_
         rintro e w2 ⟨rfl, hb2⟩
         have H2 := Lib.hid (H1.out.call hb2)
         obtain ⟨p0, p1, p2, p3, p4⟩ := perm_cells H2.out.blk
         clear hb2))
    go_ret
    exact ⟨rfl, H2.out.bel⟩
  rw [decide_eq_false hlong] at SL
  by_cases h40 : 40 < n
  · have t1 : decide ((40 : Int) < (n : Int)) = true := decide_eq_true (by omega)
    have t1' : decide (40 < n) = true := decide_eq_true h40
    clear hlong hE hT h40
    go_enter Tryd.func3, Tryd.ntmps3
    go_wp2_with (first
      | (go_at_call 9
         with_reducible refine (SA.out _ H0.out.env).mono ?_
         rintro e w1 ⟨rfl, hb1⟩
         have H1 := Lib.hid (H0.out.call hb1)
         obtain ⟨p0, p1, p2, p3, p4⟩ := perm_cells H1.out.blk
         clear hb1)
      | (go_at_call 10
         with_reducible refine (SL.out _).mono ?_
         rintro e w2 ⟨rfl, hb2⟩
         have H2 := Lib.hid (H1.out.call hb2)
         obtain ⟨p0, p1, p2, p3, p4⟩ := perm_cells H2.out.blk
         clear hb2))
    go_ret
    exact ⟨rfl, H2.out.bel⟩
  have t1 : decide ((40 : Int) < (n : Int)) = false := decide_eq_false (by omega)
  have t1' : decide (40 < n) = false := decide_eq_false h40
  obtain ⟨er, her⟩ : ∃ z, z = yErr (validB nm nd ev vol tot = true) E n from_ sec := ⟨_, rfl⟩
  have SC := Lib.hid fun w hE hT => tcheck nm nd ev vol tot hn1 hn2 A n c E from_ sec (by omega) w hE hT er her
  by_cases h0 : er = 0
  · subst h0
    obtain ⟨hok, hrp, hst, hyr⟩ := yErr_zero her.symm
    have hlim := (validB_true.1 hok).2.2
    unfold limR at hlim
    have hLa : chkL (validB nm nd ev vol tot = true) E n from_ sec ev vol tot = finds (yrs E from_ sec) E.Tot n ev vol tot := by unfold chkL; rw [if_pos her.symm]
    have HYB : Hid (∀ i, i < n → 0 ≤ yrs E from_ sec i ∧ yrs E from_ sec i ≤ 9999) := fun i hi => (hyr i hi).bound
    have HYR := Lib.hid hyr
    have HRP := Lib.hid hrp
    have HST := Lib.hid hst
    have HASC := Lib.hid (yrs_asc her.symm)
    have HLI := Lib.hid hlim
    have HLa := Lib.hid hLa
    have H40 : Hid (n ≤ 40) := by show n ≤ 40; omega
    obtain ⟨SI0, si0, sz0, sz1, sz2⟩ := info_parts1 infoI
    have SI1 := Lib.hid si0
    have SI2 := Lib.hid sz0
    have SI3 := Lib.hid sz1
    have SI4 := Lib.hid sz2
    clear hlong h40 hE hT her hok hrp hst hyr hlim hLa hn1 hn2 si0 sz0 sz1 sz2
    go_enter Tryd.func3, Tryd.ntmps3
    go_wp2_with (first
      | (go_at_call 9
         with_reducible refine (SA.out _ H0.out.env).mono ?_
         rintro e w1 ⟨rfl, hb1⟩
         have H1 := Lib.hid (H0.out.call hb1)
         obtain ⟨p0, p1, p2, p3, p4⟩ := perm_cells H1.out.blk
         clear hb1)
      | (go_at_call 10
         with_reducible refine (SL.out _).mono ?_
         rintro e w2 ⟨rfl, hb2⟩
         have H2 := Lib.hid (H1.out.call hb2)
         obtain ⟨p0, p1, p2, p3, p4⟩ := perm_cells H2.out.blk
         clear hb2)
      | (go_at_call 11
         with_reducible refine (SC.out _ H2.out.env H2.out.ev).mono ?_
         rintro e w3 ⟨A3, N3, c3, rfl, hN3, hF3, hb3⟩
         rw [HLa.out] at hN3 hF3
         have HN3 := Lib.hid hN3
         have HF3 := Lib.hid hF3
         have H3 := Lib.hid (H2.out.call hb3)
         clear hF3 hb3 hN3 p0 p1 p2 p3 p4))
    go_loopw [11, 12, 13, 55] (fun u v x z wr => ∃ i m : Nat, Hid (i ≤ n) ∧ z = .int .i64 i ∧ Hid (Y3 w3 wr u m (keysTo (yrs E from_ sec) i) v m ((keysTo (yrs E from_ sec) i).map (mcnt (yrs E from_ sec) i)) x m ((keysTo (yrs E from_ sec) i).map (msm (yrs E from_ sec) E.Tot i)))) (fun _ _ _ z _ => n - (RowKit.intOf z).toNat)
    case atStart => exact ⟨0, 0, Nat.zero_le _, rfl, Y3.nil w3⟩
    case round =>
      obtain ⟨i, m, Hi, rfl, HM⟩ := hrel
      by_cases hlt : i < n
      · have T0 : decide ((i : Int) < (n : Int)) = true := by simp <;> omega
        obtain ⟨i', hi'⟩ : ∃ z, z = i + 1 := ⟨_, rfl⟩
        have x0 : IntKind.i64.wrap ((i : Int) + 1) = (i' : Int) := by have := H40.out; rw [IntKind.wrap_i64]; omega
        have HI' : Hid (i' ≤ n) := by show i' ≤ n; omega
        have HMS : Hid (n - (RowKit.intOf (Value.int .i64 (i' : Int))).toNat < n - (RowKit.intOf (Value.int .i64 (i : Int))).toNat) := by show _ < _; simp [RowKit.intOf]; omega
        have k0 : (0 : Int) ≤ (i : Int) := by omega
        have k1 : (i : Int) < (n : Int) := by omega
        have hm40 : m ≤ 40 := by have h1 := HM.out.1.2.1; have h2 := keys_len (yrs E from_ sec) i; have := H40.out; omega
        have HM300 : Hid (m ≤ 300) := by show m ≤ 300; omega
        obtain ⟨eb, eoff, rfl, heb, c0, c1, c2, c3⟩ := ((H3.out.call HM.out.bel).ev).at hlt
        have hbd := HRP.out.bounds hlt
        obtain ⟨p, hp⟩ : ∃ z, z = sec * E.F i := ⟨_, rfl⟩
        obtain ⟨t, ht⟩ : ∃ z, z = from_ + p := ⟨_, rfl⟩
        have htb := t_bound HST.out hbd.1 (by omega)
        have hsb := HST.out
        unfold stepP InstP at hsb
        have x1 : IntKind.i64.wrap (sec * E.F i) = p := by rw [← hp, IntKind.wrap_i64]; omega
        have x2 : IntKind.i64.wrap (from_ + p) = t := by rw [← ht, IntKind.wrap_i64]; omega
        have SS := Lib.hid fun w => tsplit t (yrs E from_ sec i) 0 (by rw [ht, hp]; exact HYR.out i hlt) w
        have SI := Lib.hid fun w hE => titoa (i : Int) (by omega) (by have := H40.out; omega) w hE
        obtain ⟨b, hb⟩ : ∃ z, z = decide (vol < E.Tot i) := ⟨_, rfl⟩
        have tb := hb.symm
        have sco := fun (A : Option Addr) (N c : Nat) w hN hA => fcontains A N c (finds (yrs E from_ sec) E.Tot n ev vol tot) 2 (fnm (i : Int)) w hN hA
        rw [has2 H40.out HYB.out hlt, ← hb] at sco
        have SCO := Lib.hid sco
        have HLT := Lib.hid hlt
        have HI1 := Lib.hid hi'
        have HBD := Lib.hid hbd
        clear hlt hi' hbd hp ht htb hsb hb sco
        obtain ⟨A1, cp1, h8⟩ := HM.out.1.form
        subst h8
        obtain ⟨A2, cp2, h8⟩ := HM.out.2.1.form
        subst h8
        obtain ⟨A3r, cp3, h8⟩ := HM.out.2.2.1.form
        subst h8
        go_upto_region 13 with (first
          | (go_at_call 12
             with_reducible refine (SS.out _).mono ?_
             rintro e w4 ⟨⟨mo, da, se, rfl⟩, hb4⟩
             have BE4 := Lib.hid ((Blk.new wr 33 #[.int .i64 (E.F i), .int .i64 (E.To i), .int .i64 (E.Tot i), .int .i64 (E.Pk i)]).call hb4)
             have HM4 := Lib.hid (HM.out.call (below_al hb4))
             clear hb4))
        have hal : Below w4.heap.size w4 (w4.alloc (Obj.cells #[.int .i64 (yrs E from_ sec i), .int .i64 mo, .int .i64 da] 35)) := (Below.refl _ w4).alloc (Nat.le_refl _) _
        have BE5 := Lib.hid (BE4.out.call hal)
        have HM5 := Lib.hid (HM4.out.call hal)
        have BD5 := Lib.hid (Blk.new w4 35 #[.int .i64 (yrs E from_ sec i), .int .i64 mo, .int .i64 da])
        obtain ⟨gd, hgd⟩ : ∃ z, z = w4.heap.size := ⟨_, rfl⟩
        obtain ⟨ge, hge⟩ : ∃ z, z = wr.heap.size := ⟨_, rfl⟩
        rw [← hgd] at BD5 ⊢
        rw [← hge] at BE5 ⊢
        clear hal BE4 HM4 hgd hge c0 c1 c2 c3 heb
        generalize (w4.alloc (Obj.cells #[.int .i64 (yrs E from_ sec i), .int .i64 mo, .int .i64 da] 35)) = w5 at BE5 HM5 BD5 ⊢
        obtain ⟨e0, e1, e2, e3⟩ := ev_cells BE5.out
        obtain ⟨p0, p1, p2, p3, p4⟩ := perm_cells (H3.out.call HM5.out.bel).blk
        go_cut [85] from 71 to 85 (fun z wx => z = .bool false ∧ Y3 w3 wx (.slice A1 m cp1) m (keysTo (yrs E from_ sec) i) (.slice A2 m cp2) m ((keysTo (yrs E from_ sec) i).map (mcnt (yrs E from_ sec) i)) (.slice A3r m cp3) m ((keysTo (yrs E from_ sec) i).map (msm (yrs E from_ sec) E.Tot i)) ∧ Blk wx ge 33 #[.int .i64 (E.F i), .int .i64 (E.To i), .int .i64 (E.Tot i), .int .i64 (E.Pk i)] ∧ Blk wx gd 35 #[.int .i64 (yrs E from_ sec i), .int .i64 mo, .int .i64 da])
        case first =>
          go_region_law (first
            | (go_simp
               go_at_call 14
               with_reducible refine (SI.out _ (H3.out.call HM5.out.bel).drew.env).mono ?_
               rintro e w6 ⟨rfl, hb6⟩
               have HM6 := Lib.hid ((HM5.out.call ((Below.refl _ w5).drew)).call hb6)
               have BE6 := Lib.hid ((BE5.out.drewN 1).call hb6)
               have BD6 := Lib.hid ((BD5.out.drewN 1).call hb6)
               obtain ⟨e0, e1, e2, e3⟩ := ev_cells BE6.out
               obtain ⟨p0, p1, p2, p3, p4⟩ := perm_cells (H3.out.call HM6.out.bel).blk
               clear hb6)
            | (go_simp
               go_at_call 13
               with_reducible refine (SCO.out _ _ _ _ HN3.out (HF3.out.below (Nat.le_refl _) HM6.out.bel)).mono ?_
               rintro e w7 ⟨rfl, hb7⟩
               have HM7 := Lib.hid (HM6.out.call hb7)
               have BE7 := Lib.hid (BE6.out.call hb7)
               have BD7 := Lib.hid (BD6.out.call hb7)
               obtain ⟨e0, e1, e2, e3⟩ := ev_cells BE7.out
               obtain ⟨p0, p1, p2, p3, p4⟩ := perm_cells (H3.out.call HM7.out.bel).blk
               clear hb7))
          all_goals (go_wp2_with fail; go_meet)
          all_goals (exact ⟨by simp [*], HM7.out, BE7.out, BD7.out⟩)
        case rest =>
          obtain ⟨rfl, hm7, be7, bd7⟩ := hcut
          generalize wc = w7 at hm7 be7 bd7 ⊢
          have HM7 := Lib.hid hm7
          have BE7 := Lib.hid be7
          have BD7 := Lib.hid bd7
          clear hm7 be7 bd7 e0 e1 e2 e3 p0 p1 p2 p3 p4
          obtain ⟨e0, e1, e2, e3⟩ := ev_cells BE7.out
          obtain ⟨d0, d1, d2⟩ := date_cells BD7.out
          by_cases hi0 : i = 0
          · have HNEW : Hid (newAt (yrs E from_ sec) i) := .inl hi0
            have hm0 : m = 0 := by have h := HM7.out.1.2.1; rw [hi0] at h; exact h
            have t2 : ((m : Int) == 0) = true := by simp [hm0]
            have t2' : (m == 0) = true := by simp [hm0]
            obtain ⟨M, hM⟩ : ∃ z, z = m + 1 := ⟨_, rfl⟩
            obtain ⟨j0, hj0⟩ : ∃ z, z = m := ⟨_, rfl⟩
            have HMM := Lib.hid hM
            have HMJ : Hid (M = j0 + 1) := by show M = j0 + 1; omega
            have HMS40 : Hid (M ≤ 41) := by show M ≤ 41; omega
            clear hi0 hM hj0 hm0
            go_upto_region 16 with fail
            go_cut [99] from 88 to 99 (fun z wx => z = .bool true ∧ Y3 w3 wx (.slice A1 m cp1) m (keysTo (yrs E from_ sec) i) (.slice A2 m cp2) m ((keysTo (yrs E from_ sec) i).map (mcnt (yrs E from_ sec) i)) (.slice A3r m cp3) m ((keysTo (yrs E from_ sec) i).map (msm (yrs E from_ sec) E.Tot i)) ∧ Blk wx ge 33 #[.int .i64 (E.F i), .int .i64 (E.To i), .int .i64 (E.Tot i), .int .i64 (E.Pk i)] ∧ Blk wx gd 35 #[.int .i64 (yrs E from_ sec i), .int .i64 mo, .int .i64 da])
            case first =>
              go_quiet (fail)
              go_wp2_with fail
              go_meet
              exact ⟨by first | (simp; exact HYY.out) | (simp [*]; done), HM7.out.call (below_drewN (Below.refl _ _) _), BE7.out.drewN _, BD7.out.drewN _⟩
            case' rest =>
              obtain ⟨rfl, hm7, be7, bd7⟩ := hcut
              clear HM7 BE7 BD7 e0 e1 e2 e3 d0 d1 d2
              generalize wc = w7 at hm7 be7 bd7 ⊢
              have HM7 := Lib.hid hm7
              have BE7 := Lib.hid be7
              have BD7 := Lib.hid bd7
              clear hm7 be7 bd7
              obtain ⟨e0, e1, e2, e3⟩ := ev_cells BE7.out
              obtain ⟨d0, d1, d2⟩ := date_cells BD7.out
            go_upto_region 18 with (first
              | (at_builtin; refine wpList_append_own_at _ ?pa1a (.tmp 100) (.tmp 103) 31 ?pa1b (w3.heap.size) 3 SI0 (.int .i64 0) 1 8 Tryd.underlying31 SI1.out SI2.out SI3.out SI4.out ?pa1c ?pa1d (.slice A1 m cp1) (m) (iv (keysTo (yrs E from_ sec) i)) ?pa1e (HM7.out.1.1.alloc _) (⟨w7.heap.size, 0, none⟩) (1) (1) ([.int .i64 (yrs E from_ sec i)]) ?pa1g (rfl) (World.news_of_block (cs := #[.int .i64 (yrs E from_ sec i)]) (t := 3) (fr := (0, 0)) (heap_alloc_new _ _)) ((by simp [Value.oneCell'])) (h63_i HM300.out) (hby_i HM300.out) (Nat.le_trans HM7.out.bel.size (by simp)) ?pa1h
                 case pa1a => exact rfl
                 case pa1b => exact rfl
                 case pa1c => exact rfl
                 case pa1d => decide
                 case pa1e => exact rfl
                 case pa1g => exact rfl
                 intro v8 w8 hown2 hgrow2 hnil2 hat2
                 have HM8 := Lib.hid (HM7.out.app1 hown2 hgrow2 hat2)
                 have BE8 := Lib.hid (HM7.out.1.keepB BE7.out (by decide) hgrow2)
                 have BD8 := Lib.hid (HM7.out.1.keepB BD7.out (by decide) hgrow2)
                 obtain ⟨e0, e1, e2, e3⟩ := ev_cells BE8.out
                 obtain ⟨d0, d1, d2⟩ := date_cells BD8.out
                 clear hown2 hgrow2 hnil2 hat2)
              | (at_builtin; refine wpList_append_own_at _ ?pa2a (.tmp 105) (.tmp 106) 31 ?pa2b (w3.heap.size) 3 SI0 (.int .i64 0) 1 8 Tryd.underlying31 SI1.out SI2.out SI3.out SI4.out ?pa2c ?pa2d (.slice A2 m cp2) (m) (iv ((keysTo (yrs E from_ sec) i).map (mcnt (yrs E from_ sec) i))) ?pa2e (HM8.out.2.1.1.alloc _) (⟨w8.heap.size, 0, none⟩) (1) (1) ([.int .i64 0]) ?pa2g (rfl) (World.news_of_block (cs := #[.int .i64 0]) (t := 3) (fr := (0, 0)) (heap_alloc_new _ _)) ((by simp [Value.oneCell'])) (h63_i HM300.out) (hby_i HM300.out) (Nat.le_trans HM8.out.bel.size (by simp)) ?pa2h
                 case pa2a => exact rfl
                 case pa2b => exact rfl
                 case pa2c => exact rfl
                 case pa2d => decide
                 case pa2e => exact rfl
                 case pa2g => exact rfl
                 intro v9 w9 hown2 hgrow2 hnil2 hat2
                 have HM9 := Lib.hid (HM8.out.app2 hown2 hgrow2 hat2)
                 have BE9 := Lib.hid (HM8.out.2.1.keepB BE8.out (by decide) hgrow2)
                 have BD9 := Lib.hid (HM8.out.2.1.keepB BD8.out (by decide) hgrow2)
                 obtain ⟨e0, e1, e2, e3⟩ := ev_cells BE9.out
                 obtain ⟨d0, d1, d2⟩ := date_cells BD9.out
                 clear hown2 hgrow2 hnil2 hat2)
              | (at_builtin; refine wpList_append_own_at _ ?pa3a (.tmp 108) (.tmp 109) 31 ?pa3b (w3.heap.size) 3 SI0 (.int .i64 0) 1 8 Tryd.underlying31 SI1.out SI2.out SI3.out SI4.out ?pa3c ?pa3d (.slice A3r m cp3) (m) (iv ((keysTo (yrs E from_ sec) i).map (msm (yrs E from_ sec) E.Tot i))) ?pa3e (HM9.out.2.2.1.1.alloc _) (⟨w9.heap.size, 0, none⟩) (1) (1) ([.int .i64 0]) ?pa3g (rfl) (World.news_of_block (cs := #[.int .i64 0]) (t := 3) (fr := (0, 0)) (heap_alloc_new _ _)) ((by simp [Value.oneCell'])) (h63_i HM300.out) (hby_i HM300.out) (Nat.le_trans HM9.out.bel.size (by simp)) ?pa3h
                 case pa3a => exact rfl
                 case pa3b => exact rfl
                 case pa3c => exact rfl
                 case pa3d => decide
                 case pa3e => exact rfl
                 case pa3g => exact rfl
                 intro v10 w10 hown2 hgrow2 hnil2 hat2
                 have HM10 := Lib.hid (HM9.out.app3 hown2 hgrow2 hat2)
                 have BE10 := Lib.hid (HM9.out.2.2.1.keepB BE9.out (by decide) hgrow2)
                 have BD10 := Lib.hid (HM9.out.2.2.1.keepB BD9.out (by decide) hgrow2)
                 obtain ⟨e0, e1, e2, e3⟩ := ev_cells BE10.out
                 obtain ⟨d0, d1, d2⟩ := date_cells BD10.out
                 clear hown2 hgrow2 hnil2 hat2
                 have hx1 : Y3 w3 w10 v8 (m + 1) (keysTo (yrs E from_ sec) (i + 1)) v9 (m + 1) ((keysTo (yrs E from_ sec) (i + 1)).map (mcnt (yrs E from_ sec) i)) v10 (m + 1) ((keysTo (yrs E from_ sec) (i + 1)).map (msm (yrs E from_ sec) E.Tot i)) := by
                   have h := HM10.out
                   obtain ⟨z1, z2⟩ := new_zero (T := E.Tot) HASC.out HLT.out HNEW.out
                   rw [← map_append_one z1, ← map_append_one z2, ← keys_new HNEW.out] at h
                   exact h
                 rw [← HMM.out] at hx1
                 obtain ⟨g1, cq1, hq1, hg1, _⟩ := hx1.1.form1 (by have := HMM.out; omega)
                 obtain ⟨g2, cq2, hq2, hg2, _⟩ := hx1.2.1.form1 (by have := HMM.out; omega)
                 obtain ⟨g3, cq3, hq3, hg3, _⟩ := hx1.2.2.1.form1 (by have := HMM.out; omega)
                 clear HM10
                 subst hq1 hq2 hq3
                 have HX := Lib.hid hx1
                 clear hx1))
            obtain ⟨I, hI1, hI2, hI3⟩ := step_cnt HASC.out HLT.out
            have hsm0 : 0 ≤ sm (yrs E from_ sec) E.Tot (yrs E from_ sec i) i := sm_nn i fun j hj => by have := HRP.out.bounds (show j < n by have := HLT.out; omega); omega
            have hI4 := hI3 E.Tot (by have := HBD.out; omega) hsm0
            have hjl : j0 = I.length := by have h := HX.out.1.2.1; rw [hI1] at h; have h2 := HMJ.out; simp at h; omega
            rw [← hjl] at hI2 hI4
            have c2 := (HX.out.2.1.at (k := j0) (by have := HMJ.out; omega))
            have c3 := (HX.out.2.2.1.at (k := j0) (by have := HMJ.out; omega))
            rw [show (((keysTo (yrs E from_ sec) (i + 1)).map (mcnt (yrs E from_ sec) i))).getD j0 0 = mcnt (yrs E from_ sec) i (yrs E from_ sec i) by rw [hI1, hjl]; exact last_at] at c2
            rw [show (((keysTo (yrs E from_ sec) (i + 1)).map (msm (yrs E from_ sec) E.Tot i))).getD j0 0 = msm (yrs E from_ sec) E.Tot i (yrs E from_ sec i) by rw [hI1, hjl]; exact last_at] at c3
            obtain ⟨c2, f2⟩ := c2
            obtain ⟨c3, f3⟩ := c3
            have n3 : g3 ≠ g2 := fun e => HX.out.2.2.2.2.1 g2 (by simp [Value.ownBlock]) (by simp [Value.ownBlock, e])
            have ne2 : ge ≠ g2 := HX.out.2.1.neB BE10.out (by decide)
            have nd2 : gd ≠ g2 := HX.out.2.1.neB BD10.out (by decide)
            have hb2 := (HX.out.2.1.1.lt g2 rfl).2
            have hb3 := (HX.out.2.2.1.1.lt g3 rfl).2
            have hmc : 0 ≤ mcnt (yrs E from_ sec) i (yrs E from_ sec i) ∧ mcnt (yrs E from_ sec) i (yrs E from_ sec i) ≤ 40 := by unfold mcnt; have h1 := cnt_le (yrs E from_ sec) (yrs E from_ sec i) i; have h2 := Hi.out; have h3 := H40.out; omega
            have hms : 0 ≤ msm (yrs E from_ sec) E.Tot i (yrs E from_ sec i) ∧ msm (yrs E from_ sec) E.Tot i (yrs E from_ sec i) ≤ 2305843009213693952 := by unfold msm; omega
            generalize mcnt (yrs E from_ sec) i (yrs E from_ sec i) = mc at c2 hI2 hmc
            generalize msm (yrs E from_ sec) E.Tot i (yrs E from_ sec i) = ms at c3 hI4 hms
            obtain ⟨mc1, hmc1⟩ : ∃ z, z = mc + 1 := ⟨_, rfl⟩
            rw [← hmc1] at hI2
            have xa : IntKind.i64.wrap (mc + 1) = mc1 := by rw [← hmc1, IntKind.wrap_i64]; omega
            obtain ⟨sb, hsb⟩ : ∃ z, z = ms + E.Tot i := ⟨_, rfl⟩
            rw [← hsb] at hI4
            have xb : IntKind.i64.wrap (ms + E.Tot i) = sb := by have := HBD.out; rw [← hsb, IntKind.wrap_i64]; omega
            obtain ⟨sn, hsn⟩ : ∃ z, z = min 2305843009213693952 sb := ⟨_, rfl⟩
            rw [← hsn] at hI4
            have xm := hsn.symm
            have xk : IntKind.i64.wrap ((M : Int) - 1) = (j0 : Int) := by have h := HMJ.out; rw [IntKind.wrap_i64]; have := HMS40.out; omega
            have j1 : (0 : Int) ≤ (j0 : Int) := by omega
            have j2 : (j0 : Int) < (M : Int) := by have h := HMJ.out; omega
            have HI2 := Lib.hid hI2
            have HI4 := Lib.hid hI4
            clear hI1 hI2 hI3 hI4 hsm0 hjl hmc hms hmc1 hsb hsn
            go_upto_region 20 with fail
            have HS2 := Lib.hid (HX.out.set2 (k := j0) (z := mc1))
            have BEs := Lib.hid (BE10.out.far (p := ⟨g2, j0, none⟩) ne2 (.int .i64 mc1))
            have hne3 : (w10.setCell ⟨g2, j0, none⟩ (.int .i64 mc1)).cell? ⟨g3, j0, none⟩ = some (.int .i64 ms) := by
              have h1 := HS2.out.2.2.1.at (k := j0) (by have := HMJ.out; omega)
              have h2 := HX.out.2.2.1.at (k := j0) (by have := HMJ.out; omega)
              rw [h1.1, ← h2.1]; exact c3
            generalize (w10.setCell ⟨g2, j0, none⟩ (.int .i64 mc1)) = wS at HS2 BEs hne3 ⊢
            have f3s := (HS2.out.2.2.1.at (k := j0) (by have := HMJ.out; omega)).2
            have hb3s := (HS2.out.2.2.1.1.lt g3 rfl).2
            clear e0 e1 e2 e3 d0 d1 d2 c2 f2 c3 f3 n3 ne2 nd2 hb2 hb3
            obtain ⟨e0, e1, e2, e3⟩ := ev_cells BEs.out
            have HFD := Lib.hid ((HS2.out.call ((Below.refl _ wS).drew)).set3 (k := j0) (z := sn))
            have HT9 : Hid (Y3 w3 (wS.drew.setCell ⟨g3, j0, none⟩ (.int .i64 sn)) (.slice (some ⟨g1, 0, none⟩) M cq1) M (keysTo (yrs E from_ sec) i') (.slice (some ⟨g2, 0, none⟩) M cq2) M ((keysTo (yrs E from_ sec) i').map (mcnt (yrs E from_ sec) i')) (.slice (some ⟨g3, 0, none⟩) M cq3) M ((keysTo (yrs E from_ sec) i').map (msm (yrs E from_ sec) E.Tot i'))) := by
              show Y3 _ _ _ _ _ _ _ _ _ _ _
              rw [HI1.out, HI2.out, HI4.out]
              exact HFD.out
            have HT8 : Hid (Y3 w3 (wS.setCell ⟨g3, j0, none⟩ (.int .i64 sn)).drew (.slice (some ⟨g1, 0, none⟩) M cq1) M (keysTo (yrs E from_ sec) i') (.slice (some ⟨g2, 0, none⟩) M cq2) M ((keysTo (yrs E from_ sec) i').map (mcnt (yrs E from_ sec) i')) (.slice (some ⟨g3, 0, none⟩) M cq3) M ((keysTo (yrs E from_ sec) i').map (msm (yrs E from_ sec) E.Tot i'))) := HT9
            clear HFD
            go_region_law (fail)
            all_goals (go_wp2_with fail)
            all_goals (refine ⟨⟨i', M, HI', rfl, ?_⟩, HMS.out⟩; first | exact HT8 | exact HT9)
          · obtain ⟨ip, hip⟩ : ∃ z, i = z + 1 := ⟨i - 1, by omega⟩
            obtain ⟨Ip, hIp1, hIp2⟩ := keys_last (i := ip) HASC.out (by have := HLT.out; omega)
            rw [← hip] at hIp1
            have hmp : m = Ip.length + 1 := by have h := HM7.out.1.2.1; rw [hIp1] at h; simpa using h
            obtain ⟨jm, hjm⟩ : ∃ z, z = Ip.length := ⟨_, rfl⟩
            rw [← hjm] at hmp
            obtain ⟨gy, cpy, hqy, hgy, _⟩ := HM7.out.1.form1 (by omega)
            injection hqy with hqA _ hqc
            subst hqA hqc
            have cy := (HM7.out.1.at (k := jm) (by omega)).1
            rw [show (keysTo (yrs E from_ sec) i).getD jm 0 = yrs E from_ sec ip by rw [hIp1, hjm]; exact last_at'] at cy
            have t2 : ((m : Int) == 0) = false := by simp; omega
            have t2' : (m == 0) = false := by simp; omega
            have xj : IntKind.i64.wrap ((m : Int) - 1) = (jm : Int) := by have := HM300.out; rw [IntKind.wrap_i64]; omega
            have jj0 : (0 : Int) ≤ (jm : Int) := by omega
            have jj1 : (jm : Int) < (m : Int) := by omega
            by_cases hyy : yrs E from_ sec ip = yrs E from_ sec i
            · have HOLD : Hid (¬ newAt (yrs E from_ sec) i) := by
                show ¬ _
                unfold newAt
                rintro (h | h)
                · omega
                · exact h (by rw [show i - 1 = ip by omega]; exact hyy.symm)
              have t3 : (yrs E from_ sec ip == yrs E from_ sec i) = true := by simp [hyy]
              obtain ⟨j0, hj0⟩ : ∃ z, z = jm := ⟨_, rfl⟩
              have HMJ : Hid (m = j0 + 1) := by show m = j0 + 1; omega
              have HMS40 : Hid (m ≤ 41) := by show m ≤ 41; omega
              obtain ⟨g2, cq2, hq2, hg2, _⟩ := HM7.out.2.1.form1 (by omega)
              obtain ⟨g3, cq3, hq3, hg3, _⟩ := HM7.out.2.2.1.form1 (by omega)
              injection hq2 with hq2A _ hq2c
              injection hq3 with hq3A _ hq3c
              subst hq2A hq2c hq3A hq3c
              have HYY := Lib.hid hyy
              clear hi0 hj0 hip hIp1 hIp2 hmp hjm hyy
              go_upto_region 16 with fail
              go_cut [99] from 88 to 99 (fun z wx => z = .bool false ∧ Y3 w3 wx (.slice (some ⟨gy, 0, none⟩) m cp1) m (keysTo (yrs E from_ sec) i) (.slice (some ⟨g2, 0, none⟩) m cp2) m ((keysTo (yrs E from_ sec) i).map (mcnt (yrs E from_ sec) i)) (.slice (some ⟨g3, 0, none⟩) m cp3) m ((keysTo (yrs E from_ sec) i).map (msm (yrs E from_ sec) E.Tot i)) ∧ Blk wx ge 33 #[.int .i64 (E.F i), .int .i64 (E.To i), .int .i64 (E.Tot i), .int .i64 (E.Pk i)] ∧ Blk wx gd 35 #[.int .i64 (yrs E from_ sec i), .int .i64 mo, .int .i64 da])
              case first =>
                go_quiet (fail)
                go_wp2_with fail
                go_meet
                exact ⟨by first | (simp; exact HYY.out) | (simp [*]; done), HM7.out.call (below_drewN (Below.refl _ _) _), BE7.out.drewN _, BD7.out.drewN _⟩
              case' rest =>
                obtain ⟨rfl, hm7, be7, bd7⟩ := hcut
                clear HM7 BE7 BD7 e0 e1 e2 e3 d0 d1 d2
                generalize wc = w7 at hm7 be7 bd7 ⊢
                have HM7 := Lib.hid hm7
                have BE7 := Lib.hid be7
                have BD7 := Lib.hid bd7
                clear hm7 be7 bd7
                obtain ⟨e0, e1, e2, e3⟩ := ev_cells BE7.out
                obtain ⟨d0, d1, d2⟩ := date_cells BD7.out
              clear xj jj0 jj1 cy
              have HX : Hid (Y3 w3 w7 (.slice (some ⟨gy, 0, none⟩) m cp1) m (keysTo (yrs E from_ sec) (i + 1)) (.slice (some ⟨g2, 0, none⟩) m cp2) m ((keysTo (yrs E from_ sec) (i + 1)).map (mcnt (yrs E from_ sec) i)) (.slice (some ⟨g3, 0, none⟩) m cp3) m ((keysTo (yrs E from_ sec) (i + 1)).map (msm (yrs E from_ sec) E.Tot i))) := by
                show Y3 _ _ _ _ _ _ _ _ _ _ _
                rw [keys_old HOLD.out]
                exact HM7.out
              obtain ⟨I, hI1, hI2, hI3⟩ := step_cnt HASC.out HLT.out
              have hsm0 : 0 ≤ sm (yrs E from_ sec) E.Tot (yrs E from_ sec i) i := sm_nn i fun j hj => by have := HRP.out.bounds (show j < n by have := HLT.out; omega); omega
              have hI4 := hI3 E.Tot (by have := HBD.out; omega) hsm0
              have hjl : j0 = I.length := by have h := HX.out.1.2.1; rw [hI1] at h; have h2 := HMJ.out; simp at h; omega
              rw [← hjl] at hI2 hI4
              have c2 := (HX.out.2.1.at (k := j0) (by have := HMJ.out; omega))
              have c3 := (HX.out.2.2.1.at (k := j0) (by have := HMJ.out; omega))
              rw [show (((keysTo (yrs E from_ sec) (i + 1)).map (mcnt (yrs E from_ sec) i))).getD j0 0 = mcnt (yrs E from_ sec) i (yrs E from_ sec i) by rw [hI1, hjl]; exact last_at] at c2
              rw [show (((keysTo (yrs E from_ sec) (i + 1)).map (msm (yrs E from_ sec) E.Tot i))).getD j0 0 = msm (yrs E from_ sec) E.Tot i (yrs E from_ sec i) by rw [hI1, hjl]; exact last_at] at c3
              obtain ⟨c2, f2⟩ := c2
              obtain ⟨c3, f3⟩ := c3
              have n3 : g3 ≠ g2 := fun e => HX.out.2.2.2.2.1 g2 (by simp [Value.ownBlock]) (by simp [Value.ownBlock, e])
              have ne2 : ge ≠ g2 := HX.out.2.1.neB BE7.out (by decide)
              have nd2 : gd ≠ g2 := HX.out.2.1.neB BD7.out (by decide)
              have hb2 := (HX.out.2.1.1.lt g2 rfl).2
              have hb3 := (HX.out.2.2.1.1.lt g3 rfl).2
              have hmc : 0 ≤ mcnt (yrs E from_ sec) i (yrs E from_ sec i) ∧ mcnt (yrs E from_ sec) i (yrs E from_ sec i) ≤ 40 := by unfold mcnt; have h1 := cnt_le (yrs E from_ sec) (yrs E from_ sec i) i; have h2 := Hi.out; have h3 := H40.out; omega
              have hms : 0 ≤ msm (yrs E from_ sec) E.Tot i (yrs E from_ sec i) ∧ msm (yrs E from_ sec) E.Tot i (yrs E from_ sec i) ≤ 2305843009213693952 := by unfold msm; omega
              generalize mcnt (yrs E from_ sec) i (yrs E from_ sec i) = mc at c2 hI2 hmc
              generalize msm (yrs E from_ sec) E.Tot i (yrs E from_ sec i) = ms at c3 hI4 hms
              obtain ⟨mc1, hmc1⟩ : ∃ z, z = mc + 1 := ⟨_, rfl⟩
              rw [← hmc1] at hI2
              have xa : IntKind.i64.wrap (mc + 1) = mc1 := by rw [← hmc1, IntKind.wrap_i64]; omega
              obtain ⟨sb, hsb⟩ : ∃ z, z = ms + E.Tot i := ⟨_, rfl⟩
              rw [← hsb] at hI4
              have xb : IntKind.i64.wrap (ms + E.Tot i) = sb := by have := HBD.out; rw [← hsb, IntKind.wrap_i64]; omega
              obtain ⟨sn, hsn⟩ : ∃ z, z = min 2305843009213693952 sb := ⟨_, rfl⟩
              rw [← hsn] at hI4
              have xm := hsn.symm
              have xk : IntKind.i64.wrap ((m : Int) - 1) = (j0 : Int) := by have h := HMJ.out; rw [IntKind.wrap_i64]; have := HMS40.out; omega
              have j1 : (0 : Int) ≤ (j0 : Int) := by omega
              have j2 : (j0 : Int) < (m : Int) := by have h := HMJ.out; omega
              have HI2 := Lib.hid hI2
              have HI4 := Lib.hid hI4
              clear hI1 hI2 hI3 hI4 hsm0 hjl hmc hms hmc1 hsb hsn
              go_upto_region 20 with fail
              have HS2 := Lib.hid (HX.out.set2 (k := j0) (z := mc1))
              have BEs := Lib.hid (BE7.out.far (p := ⟨g2, j0, none⟩) ne2 (.int .i64 mc1))
              have hne3 : (w7.setCell ⟨g2, j0, none⟩ (.int .i64 mc1)).cell? ⟨g3, j0, none⟩ = some (.int .i64 ms) := by
                have h1 := HS2.out.2.2.1.at (k := j0) (by have := HMJ.out; omega)
                have h2 := HX.out.2.2.1.at (k := j0) (by have := HMJ.out; omega)
                rw [h1.1, ← h2.1]; exact c3
              generalize (w7.setCell ⟨g2, j0, none⟩ (.int .i64 mc1)) = wS at HS2 BEs hne3 ⊢
              have f3s := (HS2.out.2.2.1.at (k := j0) (by have := HMJ.out; omega)).2
              have hb3s := (HS2.out.2.2.1.1.lt g3 rfl).2
              clear e0 e1 e2 e3 d0 d1 d2 c2 f2 c3 f3 n3 ne2 nd2 hb2 hb3
              obtain ⟨e0, e1, e2, e3⟩ := ev_cells BEs.out
              have HFD := Lib.hid ((HS2.out.call ((Below.refl _ wS).drew)).set3 (k := j0) (z := sn))
              have HT9 : Hid (Y3 w3 (wS.drew.setCell ⟨g3, j0, none⟩ (.int .i64 sn)) (.slice (some ⟨gy, 0, none⟩) m cp1) m (keysTo (yrs E from_ sec) i') (.slice (some ⟨g2, 0, none⟩) m cp2) m ((keysTo (yrs E from_ sec) i').map (mcnt (yrs E from_ sec) i')) (.slice (some ⟨g3, 0, none⟩) m cp3) m ((keysTo (yrs E from_ sec) i').map (msm (yrs E from_ sec) E.Tot i'))) := by
                show Y3 _ _ _ _ _ _ _ _ _ _ _
                rw [HI1.out, HI2.out, HI4.out]
                exact HFD.out
              have HT8 : Hid (Y3 w3 (wS.setCell ⟨g3, j0, none⟩ (.int .i64 sn)).drew (.slice (some ⟨gy, 0, none⟩) m cp1) m (keysTo (yrs E from_ sec) i') (.slice (some ⟨g2, 0, none⟩) m cp2) m ((keysTo (yrs E from_ sec) i').map (mcnt (yrs E from_ sec) i')) (.slice (some ⟨g3, 0, none⟩) m cp3) m ((keysTo (yrs E from_ sec) i').map (msm (yrs E from_ sec) E.Tot i'))) := HT9
              clear HFD
              go_region_law (fail)
              all_goals (go_wp2_with fail)
              all_goals (refine ⟨⟨i', m, HI', rfl, ?_⟩, HMS.out⟩; first | exact HT8 | exact HT9)
            · have HNEW : Hid (newAt (yrs E from_ sec) i) := .inr (by rw [show i - 1 = ip by omega]; exact fun h => hyy h.symm)
              have t3 : (yrs E from_ sec ip == yrs E from_ sec i) = false := by simp [hyy]
              obtain ⟨M, hM⟩ : ∃ z, z = m + 1 := ⟨_, rfl⟩
              obtain ⟨j0, hj0⟩ : ∃ z, z = m := ⟨_, rfl⟩
              have HMM := Lib.hid hM
              have HMJ : Hid (M = j0 + 1) := by show M = j0 + 1; omega
              have HMS40 : Hid (M ≤ 41) := by show M ≤ 41; omega
              have HYY := Lib.hid hyy
              clear hi0 hM hj0 hip hIp1 hIp2 hmp hjm hyy
              go_upto_region 16 with fail
              go_cut [99] from 88 to 99 (fun z wx => z = .bool true ∧ Y3 w3 wx (.slice (some ⟨gy, 0, none⟩) m cp1) m (keysTo (yrs E from_ sec) i) (.slice A2 m cp2) m ((keysTo (yrs E from_ sec) i).map (mcnt (yrs E from_ sec) i)) (.slice A3r m cp3) m ((keysTo (yrs E from_ sec) i).map (msm (yrs E from_ sec) E.Tot i)) ∧ Blk wx ge 33 #[.int .i64 (E.F i), .int .i64 (E.To i), .int .i64 (E.Tot i), .int .i64 (E.Pk i)] ∧ Blk wx gd 35 #[.int .i64 (yrs E from_ sec i), .int .i64 mo, .int .i64 da])
              case first =>
                go_quiet (fail)
                go_wp2_with fail
                go_meet
                exact ⟨by first | (simp; exact HYY.out) | (simp [*]; done), HM7.out.call (below_drewN (Below.refl _ _) _), BE7.out.drewN _, BD7.out.drewN _⟩
              case' rest =>
                obtain ⟨rfl, hm7, be7, bd7⟩ := hcut
                clear HM7 BE7 BD7 e0 e1 e2 e3 d0 d1 d2
                generalize wc = w7 at hm7 be7 bd7 ⊢
                have HM7 := Lib.hid hm7
                have BE7 := Lib.hid be7
                have BD7 := Lib.hid bd7
                clear hm7 be7 bd7
                obtain ⟨e0, e1, e2, e3⟩ := ev_cells BE7.out
                obtain ⟨d0, d1, d2⟩ := date_cells BD7.out
              go_upto_region 18 with (first
                | (at_builtin; refine wpList_append_own_at _ ?pb1a (.tmp 100) (.tmp 103) 31 ?pb1b (w3.heap.size) 3 SI0 (.int .i64 0) 1 8 Tryd.underlying31 SI1.out SI2.out SI3.out SI4.out ?pb1c ?pb1d (.slice (some ⟨gy, 0, none⟩) m cp1) (m) (iv (keysTo (yrs E from_ sec) i)) ?pb1e (HM7.out.1.1.alloc _) (⟨w7.heap.size, 0, none⟩) (1) (1) ([.int .i64 (yrs E from_ sec i)]) ?pb1g (rfl) (World.news_of_block (cs := #[.int .i64 (yrs E from_ sec i)]) (t := 3) (fr := (0, 0)) (heap_alloc_new _ _)) ((by simp [Value.oneCell'])) (h63_i HM300.out) (hby_i HM300.out) (Nat.le_trans HM7.out.bel.size (by simp)) ?pb1h
                   case pb1a => exact rfl
                   case pb1b => exact rfl
                   case pb1c => exact rfl
                   case pb1d => decide
                   case pb1e => exact rfl
                   case pb1g => exact rfl
                   intro v8 w8 hown2 hgrow2 hnil2 hat2
                   have HM8 := Lib.hid (HM7.out.app1 hown2 hgrow2 hat2)
                   have BE8 := Lib.hid (HM7.out.1.keepB BE7.out (by decide) hgrow2)
                   have BD8 := Lib.hid (HM7.out.1.keepB BD7.out (by decide) hgrow2)
                   obtain ⟨e0, e1, e2, e3⟩ := ev_cells BE8.out
                   obtain ⟨d0, d1, d2⟩ := date_cells BD8.out
                   clear hown2 hgrow2 hnil2 hat2)
                | (at_builtin; refine wpList_append_own_at _ ?pb2a (.tmp 105) (.tmp 106) 31 ?pb2b (w3.heap.size) 3 SI0 (.int .i64 0) 1 8 Tryd.underlying31 SI1.out SI2.out SI3.out SI4.out ?pb2c ?pb2d (.slice A2 m cp2) (m) (iv ((keysTo (yrs E from_ sec) i).map (mcnt (yrs E from_ sec) i))) ?pb2e (HM8.out.2.1.1.alloc _) (⟨w8.heap.size, 0, none⟩) (1) (1) ([.int .i64 0]) ?pb2g (rfl) (World.news_of_block (cs := #[.int .i64 0]) (t := 3) (fr := (0, 0)) (heap_alloc_new _ _)) ((by simp [Value.oneCell'])) (h63_i HM300.out) (hby_i HM300.out) (Nat.le_trans HM8.out.bel.size (by simp)) ?pb2h
                   case pb2a => exact rfl
                   case pb2b => exact rfl
                   case pb2c => exact rfl
                   case pb2d => decide
                   case pb2e => exact rfl
                   case pb2g => exact rfl
                   intro v9 w9 hown2 hgrow2 hnil2 hat2
                   have HM9 := Lib.hid (HM8.out.app2 hown2 hgrow2 hat2)
                   have BE9 := Lib.hid (HM8.out.2.1.keepB BE8.out (by decide) hgrow2)
                   have BD9 := Lib.hid (HM8.out.2.1.keepB BD8.out (by decide) hgrow2)
                   obtain ⟨e0, e1, e2, e3⟩ := ev_cells BE9.out
                   obtain ⟨d0, d1, d2⟩ := date_cells BD9.out
                   clear hown2 hgrow2 hnil2 hat2)
                | (at_builtin; refine wpList_append_own_at _ ?pb3a (.tmp 108) (.tmp 109) 31 ?pb3b (w3.heap.size) 3 SI0 (.int .i64 0) 1 8 Tryd.underlying31 SI1.out SI2.out SI3.out SI4.out ?pb3c ?pb3d (.slice A3r m cp3) (m) (iv ((keysTo (yrs E from_ sec) i).map (msm (yrs E from_ sec) E.Tot i))) ?pb3e (HM9.out.2.2.1.1.alloc _) (⟨w9.heap.size, 0, none⟩) (1) (1) ([.int .i64 0]) ?pb3g (rfl) (World.news_of_block (cs := #[.int .i64 0]) (t := 3) (fr := (0, 0)) (heap_alloc_new _ _)) ((by simp [Value.oneCell'])) (h63_i HM300.out) (hby_i HM300.out) (Nat.le_trans HM9.out.bel.size (by simp)) ?pb3h
                   case pb3a => exact rfl
                   case pb3b => exact rfl
                   case pb3c => exact rfl
                   case pb3d => decide
                   case pb3e => exact rfl
                   case pb3g => exact rfl
                   intro v10 w10 hown2 hgrow2 hnil2 hat2
                   have HM10 := Lib.hid (HM9.out.app3 hown2 hgrow2 hat2)
                   have BE10 := Lib.hid (HM9.out.2.2.1.keepB BE9.out (by decide) hgrow2)
                   have BD10 := Lib.hid (HM9.out.2.2.1.keepB BD9.out (by decide) hgrow2)
                   obtain ⟨e0, e1, e2, e3⟩ := ev_cells BE10.out
                   obtain ⟨d0, d1, d2⟩ := date_cells BD10.out
                   clear hown2 hgrow2 hnil2 hat2
                   have hx1 : Y3 w3 w10 v8 (m + 1) (keysTo (yrs E from_ sec) (i + 1)) v9 (m + 1) ((keysTo (yrs E from_ sec) (i + 1)).map (mcnt (yrs E from_ sec) i)) v10 (m + 1) ((keysTo (yrs E from_ sec) (i + 1)).map (msm (yrs E from_ sec) E.Tot i)) := by
                     have h := HM10.out
                     obtain ⟨z1, z2⟩ := new_zero (T := E.Tot) HASC.out HLT.out HNEW.out
                     rw [← map_append_one z1, ← map_append_one z2, ← keys_new HNEW.out] at h
                     exact h
                   rw [← HMM.out] at hx1
                   obtain ⟨g1, cq1, hq1, hg1, _⟩ := hx1.1.form1 (by have := HMM.out; omega)
                   obtain ⟨g2, cq2, hq2, hg2, _⟩ := hx1.2.1.form1 (by have := HMM.out; omega)
                   obtain ⟨g3, cq3, hq3, hg3, _⟩ := hx1.2.2.1.form1 (by have := HMM.out; omega)
                   clear HM10
                   subst hq1 hq2 hq3
                   have HX := Lib.hid hx1
                   clear hx1))
              obtain ⟨I, hI1, hI2, hI3⟩ := step_cnt HASC.out HLT.out
              have hsm0 : 0 ≤ sm (yrs E from_ sec) E.Tot (yrs E from_ sec i) i := sm_nn i fun j hj => by have := HRP.out.bounds (show j < n by have := HLT.out; omega); omega
              have hI4 := hI3 E.Tot (by have := HBD.out; omega) hsm0
              have hjl : j0 = I.length := by have h := HX.out.1.2.1; rw [hI1] at h; have h2 := HMJ.out; simp at h; omega
              rw [← hjl] at hI2 hI4
              have c2 := (HX.out.2.1.at (k := j0) (by have := HMJ.out; omega))
              have c3 := (HX.out.2.2.1.at (k := j0) (by have := HMJ.out; omega))
              rw [show (((keysTo (yrs E from_ sec) (i + 1)).map (mcnt (yrs E from_ sec) i))).getD j0 0 = mcnt (yrs E from_ sec) i (yrs E from_ sec i) by rw [hI1, hjl]; exact last_at] at c2
              rw [show (((keysTo (yrs E from_ sec) (i + 1)).map (msm (yrs E from_ sec) E.Tot i))).getD j0 0 = msm (yrs E from_ sec) E.Tot i (yrs E from_ sec i) by rw [hI1, hjl]; exact last_at] at c3
              obtain ⟨c2, f2⟩ := c2
              obtain ⟨c3, f3⟩ := c3
              have n3 : g3 ≠ g2 := fun e => HX.out.2.2.2.2.1 g2 (by simp [Value.ownBlock]) (by simp [Value.ownBlock, e])
              have ne2 : ge ≠ g2 := HX.out.2.1.neB BE10.out (by decide)
              have nd2 : gd ≠ g2 := HX.out.2.1.neB BD10.out (by decide)
              have hb2 := (HX.out.2.1.1.lt g2 rfl).2
              have hb3 := (HX.out.2.2.1.1.lt g3 rfl).2
              have hmc : 0 ≤ mcnt (yrs E from_ sec) i (yrs E from_ sec i) ∧ mcnt (yrs E from_ sec) i (yrs E from_ sec i) ≤ 40 := by unfold mcnt; have h1 := cnt_le (yrs E from_ sec) (yrs E from_ sec i) i; have h2 := Hi.out; have h3 := H40.out; omega
              have hms : 0 ≤ msm (yrs E from_ sec) E.Tot i (yrs E from_ sec i) ∧ msm (yrs E from_ sec) E.Tot i (yrs E from_ sec i) ≤ 2305843009213693952 := by unfold msm; omega
              generalize mcnt (yrs E from_ sec) i (yrs E from_ sec i) = mc at c2 hI2 hmc
              generalize msm (yrs E from_ sec) E.Tot i (yrs E from_ sec i) = ms at c3 hI4 hms
              obtain ⟨mc1, hmc1⟩ : ∃ z, z = mc + 1 := ⟨_, rfl⟩
              rw [← hmc1] at hI2
              have xa : IntKind.i64.wrap (mc + 1) = mc1 := by rw [← hmc1, IntKind.wrap_i64]; omega
              obtain ⟨sb, hsb⟩ : ∃ z, z = ms + E.Tot i := ⟨_, rfl⟩
              rw [← hsb] at hI4
              have xb : IntKind.i64.wrap (ms + E.Tot i) = sb := by have := HBD.out; rw [← hsb, IntKind.wrap_i64]; omega
              obtain ⟨sn, hsn⟩ : ∃ z, z = min 2305843009213693952 sb := ⟨_, rfl⟩
              rw [← hsn] at hI4
              have xm := hsn.symm
              have xk : IntKind.i64.wrap ((M : Int) - 1) = (j0 : Int) := by have h := HMJ.out; rw [IntKind.wrap_i64]; have := HMS40.out; omega
              have j1 : (0 : Int) ≤ (j0 : Int) := by omega
              have j2 : (j0 : Int) < (M : Int) := by have h := HMJ.out; omega
              have HI2 := Lib.hid hI2
              have HI4 := Lib.hid hI4
              clear hI1 hI2 hI3 hI4 hsm0 hjl hmc hms hmc1 hsb hsn
              go_upto_region 20 with fail
              have HS2 := Lib.hid (HX.out.set2 (k := j0) (z := mc1))
              have BEs := Lib.hid (BE10.out.far (p := ⟨g2, j0, none⟩) ne2 (.int .i64 mc1))
              have hne3 : (w10.setCell ⟨g2, j0, none⟩ (.int .i64 mc1)).cell? ⟨g3, j0, none⟩ = some (.int .i64 ms) := by
                have h1 := HS2.out.2.2.1.at (k := j0) (by have := HMJ.out; omega)
                have h2 := HX.out.2.2.1.at (k := j0) (by have := HMJ.out; omega)
                rw [h1.1, ← h2.1]; exact c3
              generalize (w10.setCell ⟨g2, j0, none⟩ (.int .i64 mc1)) = wS at HS2 BEs hne3 ⊢
              have f3s := (HS2.out.2.2.1.at (k := j0) (by have := HMJ.out; omega)).2
              have hb3s := (HS2.out.2.2.1.1.lt g3 rfl).2
              clear e0 e1 e2 e3 d0 d1 d2 c2 f2 c3 f3 n3 ne2 nd2 hb2 hb3
              obtain ⟨e0, e1, e2, e3⟩ := ev_cells BEs.out
              have HFD := Lib.hid ((HS2.out.call ((Below.refl _ wS).drew)).set3 (k := j0) (z := sn))
              have HT9 : Hid (Y3 w3 (wS.drew.setCell ⟨g3, j0, none⟩ (.int .i64 sn)) (.slice (some ⟨g1, 0, none⟩) M cq1) M (keysTo (yrs E from_ sec) i') (.slice (some ⟨g2, 0, none⟩) M cq2) M ((keysTo (yrs E from_ sec) i').map (mcnt (yrs E from_ sec) i')) (.slice (some ⟨g3, 0, none⟩) M cq3) M ((keysTo (yrs E from_ sec) i').map (msm (yrs E from_ sec) E.Tot i'))) := by
                show Y3 _ _ _ _ _ _ _ _ _ _ _
                rw [HI1.out, HI2.out, HI4.out]
                exact HFD.out
              have HT8 : Hid (Y3 w3 (wS.setCell ⟨g3, j0, none⟩ (.int .i64 sn)).drew (.slice (some ⟨g1, 0, none⟩) M cq1) M (keysTo (yrs E from_ sec) i') (.slice (some ⟨g2, 0, none⟩) M cq2) M ((keysTo (yrs E from_ sec) i').map (mcnt (yrs E from_ sec) i')) (.slice (some ⟨g3, 0, none⟩) M cq3) M ((keysTo (yrs E from_ sec) i').map (msm (yrs E from_ sec) E.Tot i'))) := HT9
              clear HFD
              go_region_law (fail)
              all_goals (go_wp2_with fail)
              all_goals (refine ⟨⟨i', M, HI', rfl, ?_⟩, HMS.out⟩; first | exact HT8 | exact HT9)
      · have hin : i = n := by have := Hi.out; omega
        have T0 : decide ((i : Int) < (n : Int)) = false := by simp <;> omega
        have T0' : decide (i < n) = false := decide_eq_false hlt
        rw [hin] at HM
        clear hlt hin
        obtain ⟨A1, cp1, h8⟩ := HM.out.1.form
        subst h8
        obtain ⟨A2, cp2, h8⟩ := HM.out.2.1.form
        subst h8
        obtain ⟨A3r, cp3, h8⟩ := HM.out.2.2.1.form
        subst h8
        obtain ⟨wE, hwE⟩ : ∃ z, z = wr := ⟨_, rfl⟩
        subst hwE
        have HM40 : Hid (m ≤ 40) := by show m ≤ 40; have h1 := HM.out.1.2.1; have h2 := keys_len (yrs E from_ sec) n; have := H40.out; omega
        have HE3 := Lib.hid (H3.out.call HM.out.bel)
        have HFE := Lib.hid (HF3.out.below (Nat.le_refl _) HM.out.bel)
        go_wp2_with fail
        go_loopw [134] (fun v wr => ∃ k : Nat, Hid (k ≤ m) ∧ v = .int .i64 k ∧ Hid (Below wE.heap.size wE wr)) (fun v _ => m - (RowKit.intOf v).toNat)
        case atStart => exact ⟨0, Nat.zero_le _, rfl, Below.refl _ _⟩
        case round =>
          obtain ⟨k, Hk, rfl, HB⟩ := hrel
          by_cases hlt : k < m
          · have T0 : decide ((k : Int) < (m : Int)) = true := by simp <;> omega
            obtain ⟨k', hk'⟩ : ∃ z, z = k + 1 := ⟨_, rfl⟩
            have x0 : IntKind.i64.wrap ((k : Int) + 1) = (k' : Int) := by have := HM40.out; rw [IntKind.wrap_i64]; omega
            have HK' : Hid (k' ≤ m) := by show k' ≤ m; omega
            have HMS : Hid (m - (RowKit.intOf (Value.int .i64 (k' : Int))).toNat < m - (RowKit.intOf (Value.int .i64 (k : Int))).toNat) := by show _ < _; simp [RowKit.intOf]; omega
            have k0 : (0 : Int) ≤ (k : Int) := by omega
            have k1 : (k : Int) < (m : Int) := by omega
            obtain ⟨g1, cq1, hq1, _, _⟩ := HM.out.1.form1 (by omega)
            obtain ⟨g2, cq2, hq2, _, _⟩ := HM.out.2.1.form1 (by omega)
            obtain ⟨g3, cq3, hq3, _, _⟩ := HM.out.2.2.1.form1 (by omega)
            injection hq1 with hq1A _ hq1c
            injection hq2 with hq2A _ hq2c
            injection hq3 with hq3A _ hq3c
            subst hq1A hq1c hq2A hq2c hq3A hq3c
            have HMr := Lib.hid (HM.out.call HB.out)
            have hkl : k < (keysTo (yrs E from_ sec) n).length := by have := HM.out.1.2.1; omega
            have cy := (HMr.out.1.at (k := k) hlt).1
            have HC2 : Hid (∀ wv : World, Below wE.heap.size wE wv → wv.cell? ⟨g2, k, none⟩ = some (.int .i64 (mcnt (yrs E from_ sec) n ((keysTo (yrs E from_ sec) n).getD k 0))) ∧ wv.cell? ⟨g3, k, none⟩ = some (.int .i64 (msm (yrs E from_ sec) E.Tot n ((keysTo (yrs E from_ sec) n).getD k 0)))) := fun wv hb => by
              have h2 := ((HM.out.call hb).2.1.at (k := k) hlt).1
              have h3 := ((HM.out.call hb).2.2.1.at (k := k) hlt).1
              rw [show ((keysTo (yrs E from_ sec) n).map (mcnt (yrs E from_ sec) n)).getD k 0 = mcnt (yrs E from_ sec) n ((keysTo (yrs E from_ sec) n).getD k 0) by simp [List.getD, hkl]] at h2
              rw [show ((keysTo (yrs E from_ sec) n).map (msm (yrs E from_ sec) E.Tot n)).getD k 0 = msm (yrs E from_ sec) E.Tot n ((keysTo (yrs E from_ sec) n).getD k 0) by simp [List.getD, hkl]] at h3
              exact ⟨h2, h3⟩
            have hym : (keysTo (yrs E from_ sec) n).getD k 0 ∈ (keysTo (yrs E from_ sec) n) := by
              have e : (keysTo (yrs E from_ sec) n).getD k 0 = (keysTo (yrs E from_ sec) n)[k] := by simp [List.getD, hkl]
              rw [e]; exact List.getElem_mem _
            have hyb : 0 ≤ (keysTo (yrs E from_ sec) n).getD k 0 ∧ (keysTo (yrs E from_ sec) n).getD k 0 ≤ 9999 := by obtain ⟨i2, hi2, e⟩ := mem_keys.1 hym; rw [← e]; exact HYB.out i2 hi2
            have s1 := fun (A : Option Addr) (N c : Nat) w hN hA => fcontains A N c (finds (yrs E from_ sec) E.Tot n ev vol tot) 1 (fnm ((keysTo (yrs E from_ sec) n).getD k 0)) w hN hA
            have s3 := fun (A : Option Addr) (N c : Nat) w hN hA => fcontains A N c (finds (yrs E from_ sec) E.Tot n ev vol tot) 3 (fnm ((keysTo (yrs E from_ sec) n).getD k 0)) w hN hA
            rw [has1 H40.out HYB.out hym] at s1
            rw [has3 H40.out HYB.out hym HLI.out.2.2.2.2.2] at s3
            have SI := Lib.hid fun w hE => titoa ((keysTo (yrs E from_ sec) n).getD k 0) (by omega) (by omega) w hE
            generalize mcnt (yrs E from_ sec) n ((keysTo (yrs E from_ sec) n).getD k 0) = mc at HC2 s1
            generalize msm (yrs E from_ sec) E.Tot n ((keysTo (yrs E from_ sec) n).getD k 0) = ms at HC2 s3
            obtain ⟨b1, hb1⟩ : ∃ z, z = decide (ev < mc) := ⟨_, rfl⟩
            obtain ⟨b3, hb3⟩ : ∃ z, z = decide (tot < ms) := ⟨_, rfl⟩
            have tb1 := hb1.symm
            have tb3 := hb3.symm
            rw [← hb1] at s1
            rw [← hb3] at s3
            have S1 := Lib.hid s1
            have S3 := Lib.hid s3
            generalize (keysTo (yrs E from_ sec) n).getD k 0 = y at cy SI S1 S3
            clear hlt hk' hkl hym hyb s1 s3 hb1 hb3
            go_upto_region 27 with (first
              | (go_at_call 14
                 with_reducible refine (SI.out _ (HE3.out.call HB.out).env).mono ?_
                 rintro e w8 ⟨rfl, hb8⟩
                 have HB8 := Lib.hid (below_step HB.out hb8)
                 clear hb8)
              | (go_at_call 13
                 with_reducible refine (S1.out _ _ _ _ HN3.out (HFE.out.below (Nat.le_refl _) HB8.out)).mono ?_
                 rintro e w9 ⟨rfl, hb9⟩
                 have HB9 := Lib.hid (below_step HB8.out hb9)
                 clear hb9))
            go_upto_region 28 with (first
              | (go_at_call 14
                 with_reducible refine (SI.out _ (HE3.out.call HB9.out).env).mono ?_
                 rintro e w10 ⟨rfl, hb10⟩
                 have HB10 := Lib.hid (below_step HB9.out hb10)
                 clear hb10)
              | (go_at_call 13
                 with_reducible refine (S3.out _ _ _ _ HN3.out (HFE.out.below (Nat.le_refl _) HB10.out)).mono ?_
                 rintro e w11 ⟨rfl, hb11⟩
                 have HB11 := Lib.hid (below_step HB10.out hb11)
                 obtain ⟨c2, c3⟩ := HC2.out w11 HB11.out
                 obtain ⟨p0, p1, p2, p3, p4⟩ := perm_cells (HE3.out.call HB11.out).blk
                 clear hb11))
            go_quiet (fail)
            go_wp2_with fail
            go_roundw
            case rel => exact ⟨k', HK', rfl, below_drewN HB11.out _⟩
            case measure => exact HMS.out
          · have hin : k = m := by have := Hk.out; omega
            have T0 : decide ((k : Int) < (m : Int)) = false := by simp <;> omega
            have T0' : decide (k < m) = false := decide_eq_false hlt
            clear hlt hin
            obtain ⟨wF, hwF⟩ : ∃ z, z = wr := ⟨_, rfl⟩
            subst hwF
            obtain ⟨La, hLa2⟩ : ∃ z, z = finds (yrs E from_ sec) E.Tot n ev vol tot := ⟨_, rfl⟩
            have HKA : Hid (∀ j, j < La.length → 1 ≤ fK La j ∧ fK La j ≤ 3 ∧ (0 < j → fK La (j - 1) ≤ fK La j)) := by show ∀ j, _ → _; rw [hLa2]; exact fun j hj => kind_at hj
            have HTW : Hid (twos La La.length = (greatL E.Tot vol n).length) := by show _ = _; rw [hLa2]; exact twos_finds
            rw [← hLa2] at HN3 HFE
            clear hLa2
            have HE4 := Lib.hid (HE3.out.call HB.out)
            have HF4 := Lib.hid (HFE.out.below (Nat.le_refl _) HB.out)
            have HNB : Hid (N3 ≤ 9223372036854775807) := by show N3 ≤ _; have h1 := HFE.out.1; have h2 := HN3.out; omega
            go_wp2_with fail
            go_loopw [21, 172] (fun u v wr => ∃ j : Nat, Hid (j ≤ N3) ∧ u = .int .i64 (twos La j) ∧ v = .int .i64 j ∧ Hid (Below wF.heap.size wF wr)) (fun _ v _ => N3 - (RowKit.intOf v).toNat)
            case atStart => exact ⟨0, Nat.zero_le _, rfl, rfl, Below.refl _ _⟩
            case round =>
              obtain ⟨j, Hj, rfl, rfl, HV⟩ := hrel
              by_cases hlt : j < N3
              · have T0 : decide ((j : Int) < (N3 : Int)) = true := by simp <;> omega
                obtain ⟨j', hj'⟩ : ∃ z, z = j + 1 := ⟨_, rfl⟩
                have x0 : IntKind.i64.wrap ((j : Int) + 1) = (j' : Int) := by have := HNB.out; rw [IntKind.wrap_i64]; omega
                have HJ' : Hid (j' ≤ N3) := by show j' ≤ N3; omega
                have HMS : Hid (N3 - (RowKit.intOf (Value.int .i64 (j' : Int))).toNat < N3 - (RowKit.intOf (Value.int .i64 (j : Int))).toNat) := by show _ < _; simp [RowKit.intOf]; omega
                have k0 : (0 : Int) ≤ (j : Int) := by omega
                have k1 : (j : Int) < (N3 : Int) := by omega
                have hjl : j < La.length := by have := HN3.out; omega
                obtain ⟨fb, fo, rfl, hfb, f0, f1⟩ := (HF4.out.below (Nat.le_refl _) HV.out).at (k := j) hjl
                have hka := HKA.out j hjl
                have htl := twos_le La j
                obtain ⟨t2v, ht2⟩ : ∃ z, z = twos La j := ⟨_, rfl⟩
                obtain ⟨t2n, ht2n⟩ : ∃ z, z = twos La j' := ⟨_, rfl⟩
                have hst : t2n = t2v + (if fK La j = 2 then 1 else 0) := by rw [ht2n, ht2, hj']; rfl
                rw [← ht2] at htl ⊢
                have HT2 := Lib.hid ht2n
                have xt : IntKind.i64.wrap ((t2v : Int) + 1) = ((t2v + 1 : Nat) : Int) := by have := HNB.out; rw [IntKind.wrap_i64]; omega
                obtain ⟨kd, hkd⟩ : ∃ z, z = fK La j := ⟨_, rfl⟩
                rw [← hkd] at f0 hka hst
                have g1 : decide (kd < 1) = false := decide_eq_false (by omega)
                have g2 : decide ((3 : Int) < kd) = false := decide_eq_false (by omega)
                have HBE : Hid (Blk (wr.alloc (Obj.cells #[.int .i64 kd, .string (fnm (fV La j))] 40)) wr.heap.size 40 #[.int .i64 kd, .string (fnm (fV La j))]) := Blk.new _ _ _
                have HVA : Hid (Below wF.heap.size wF (wr.alloc (Obj.cells #[.int .i64 kd, .string (fnm (fV La j))] 40))) := HV.out.alloc HV.out.size _
                by_cases h2 : kd = 2
                · have q2 : (kd == 2) = true := by simp [h2]
                  rw [if_pos h2] at hst
                  have HST := Lib.hid hst
                  clear hst
                  by_cases hj0 : j = 0
                  · have q3 : decide ((0 : Int) < (j : Int)) = false := decide_eq_false (by omega)
                    have q3' : decide (0 < j) = false := decide_eq_false (by omega)
                    clear h2 hj0
                    clear hka hkd htl ht2 ht2n hj' hlt
                    go_wp2_with fail
                    go_quiet (fail)
                    go_wp2_with fail
                    go_roundw
                    case rel => exact ⟨j', HJ', by (rw [← HT2.out, HST.out]; try rfl), rfl, below_drewN HVA.out _⟩
                    case measure => exact HMS.out
                  · have q3 : decide ((0 : Int) < (j : Int)) = true := decide_eq_true (by omega)
                    have q3' : decide (0 < j) = true := decide_eq_true (by omega)
                    obtain ⟨jm, hjm⟩ : ∃ z, j = z + 1 := ⟨j - 1, by omega⟩
                    have xj : IntKind.i64.wrap ((j : Int) - 1) = (jm : Int) := by have := HNB.out; rw [IntKind.wrap_i64]; omega
                    have jj0 : (0 : Int) ≤ (jm : Int) := by omega
                    have jj1 : (jm : Int) < (N3 : Int) := by omega
                    have hjml : jm < La.length := by omega
                    obtain ⟨fb2, fo2, hfa, _, f2, f3⟩ := (HF4.out.below (Nat.le_refl _) HV.out).at (k := jm) hjml
                    injection hfa with hfa
                    injection hfa with hfa1 hfa2
                    subst hfa1 hfa2
                    have hle := hka.2.2 (by omega)
                    rw [show j - 1 = jm by omega] at hle
                    have q4 : decide (kd < fK La jm) = false := decide_eq_false (by omega)
                    clear h2 hj0 hjm hle
                    clear hka hkd htl ht2 ht2n hj' hlt
                    go_wp2_with fail
                    go_quiet (fail)
                    go_wp2_with fail
                    go_roundw
                    case rel => exact ⟨j', HJ', by (rw [← HT2.out, HST.out]; try rfl), rfl, below_drewN HVA.out _⟩
                    case measure => exact HMS.out
                · have q2 : (kd == 2) = false := by simp [h2]
                  rw [if_neg h2, Nat.add_zero] at hst
                  have HST := Lib.hid hst
                  clear hst
                  by_cases hj0 : j = 0
                  · have q3 : decide ((0 : Int) < (j : Int)) = false := decide_eq_false (by omega)
                    have q3' : decide (0 < j) = false := decide_eq_false (by omega)
                    clear h2 hj0
                    clear hka hkd htl ht2 ht2n hj' hlt
                    go_wp2_with fail
                    go_quiet (fail)
                    go_wp2_with fail
                    go_roundw
                    case rel => exact ⟨j', HJ', by (rw [← HT2.out, HST.out]; try rfl), rfl, below_drewN HVA.out _⟩
                    case measure => exact HMS.out
                  · have q3 : decide ((0 : Int) < (j : Int)) = true := decide_eq_true (by omega)
                    have q3' : decide (0 < j) = true := decide_eq_true (by omega)
                    obtain ⟨jm, hjm⟩ : ∃ z, j = z + 1 := ⟨j - 1, by omega⟩
                    have xj : IntKind.i64.wrap ((j : Int) - 1) = (jm : Int) := by have := HNB.out; rw [IntKind.wrap_i64]; omega
                    have jj0 : (0 : Int) ≤ (jm : Int) := by omega
                    have jj1 : (jm : Int) < (N3 : Int) := by omega
                    have hjml : jm < La.length := by omega
                    obtain ⟨fb2, fo2, hfa, _, f2, f3⟩ := (HF4.out.below (Nat.le_refl _) HV.out).at (k := jm) hjml
                    injection hfa with hfa
                    injection hfa with hfa1 hfa2
                    subst hfa1 hfa2
                    have hle := hka.2.2 (by omega)
                    rw [show j - 1 = jm by omega] at hle
                    have q4 : decide (kd < fK La jm) = false := decide_eq_false (by omega)
                    clear h2 hj0 hjm hle
                    clear hka hkd htl ht2 ht2n hj' hlt
                    go_wp2_with fail
                    go_quiet (fail)
                    go_wp2_with fail
                    go_roundw
                    case rel => exact ⟨j', HJ', by (rw [← HT2.out, HST.out]; try rfl), rfl, below_drewN HVA.out _⟩
                    case measure => exact HMS.out
              · have hin : j = N3 := by have := Hj.out; omega
                have T0 : decide ((j : Int) < (N3 : Int)) = false := by simp <;> omega
                have T0' : decide (j < N3) = false := decide_eq_false hlt
                have htw : twos La j = (greatL E.Tot vol n).length := by rw [hin, HN3.out]; exact HTW.out
                rw [htw]
                clear hlt hin htw
                obtain ⟨wG, hwG⟩ : ∃ z, z = wr := ⟨_, rfl⟩
                subst hwG
                have HE5 := Lib.hid (HE4.out.call HV.out)
                go_wp2_with fail
                go_loopw [28, 208] (fun u v wr => ∃ l : Nat, Hid (l ≤ n) ∧ u = .int .i64 ((greatL E.Tot vol l).length : Nat) ∧ v = .int .i64 l ∧ Hid (Below wG.heap.size wG wr)) (fun _ v _ => n - (RowKit.intOf v).toNat)
                case atStart => exact ⟨0, Nat.zero_le _, rfl, rfl, Below.refl _ _⟩
                case round =>
                  obtain ⟨l, Hl, rfl, rfl, HX⟩ := hrel
                  by_cases hlt : l < n
                  · have T0 : decide ((l : Int) < (n : Int)) = true := by simp <;> omega
                    obtain ⟨l', hl'⟩ : ∃ z, z = l + 1 := ⟨_, rfl⟩
                    have x0 : IntKind.i64.wrap ((l : Int) + 1) = (l' : Int) := by have := H40.out; rw [IntKind.wrap_i64]; omega
                    have HL' : Hid (l' ≤ n) := by show l' ≤ n; omega
                    have HMS : Hid (n - (RowKit.intOf (Value.int .i64 (l' : Int))).toNat < n - (RowKit.intOf (Value.int .i64 (l : Int))).toNat) := by show _ < _; simp [RowKit.intOf]; omega
                    have k0 : (0 : Int) ≤ (l : Int) := by omega
                    have k1 : (l : Int) < (n : Int) := by omega
                    have HE6 := Lib.hid (HE5.out.call HX.out)
                    obtain ⟨eb, eoff, rfl, heb, c0, c1, c2, c3⟩ := HE6.out.ev.at hlt
                    obtain ⟨p0, p1, p2, p3, p4⟩ := perm_cells HE6.out.blk
                    have pl := HE6.out.blk.lt
                    have hgl := gFnd_len E.Tot vol l
                    have hgl2 : (greatL E.Tot vol l).length ≤ l := by unfold gFnd at hgl; simpa using hgl
                    have hgn : (greatL E.Tot vol l').length = (greatL E.Tot vol l).length + (if vol < E.Tot l then 1 else 0) := by rw [hl', greatL, List.length_append]; split <;> simp
                    obtain ⟨gl, hgl3⟩ : ∃ z, z = (greatL E.Tot vol l).length := ⟨_, rfl⟩
                    rw [← hgl3] at hgl2 hgn ⊢
                    have xg : IntKind.i64.wrap ((gl : Int) + 1) = ((gl + 1 : Nat) : Int) := by have := H40.out; rw [IntKind.wrap_i64]; omega
                    by_cases hgr : vol < E.Tot l
                    · have t2 : decide (vol < E.Tot l) = true := decide_eq_true hgr
                      rw [if_pos hgr] at hgn
                      have HGN := Lib.hid hgn
                      clear hlt hl' hgl hgl2 hgn hgl3 hgr
                      go_wp2_with fail
                      go_roundw
                      case rel => exact ⟨l', HL', by (rw [HGN.out]; try rfl), rfl, HX.out.alloc HX.out.size _⟩
                      case measure => exact HMS.out
                    · have t2 : decide (vol < E.Tot l) = false := decide_eq_false hgr
                      rw [if_neg hgr] at hgn
                      have HGN := Lib.hid hgn
                      clear hlt hl' hgl hgl2 hgn hgl3 hgr
                      go_wp2_with fail
                      go_roundw
                      case rel => exact ⟨l', HL', by (rw [HGN.out]; try rfl), rfl, HX.out.alloc HX.out.size _⟩
                      case measure => exact HMS.out
                  · have hin : l = n := by have := Hl.out; omega
                    have T0 : decide ((l : Int) < (n : Int)) = false := by simp <;> omega
                    have T0' : decide (l < n) = false := decide_eq_false hlt
                    have egl : (greatL E.Tot vol l).length = (greatL E.Tot vol n).length := by rw [hin]
                    rw [egl]
                    clear hlt hin egl
                    go_wp2_with fail
                    go_ret
                    exact ⟨by simp, (HE5.out.call HX.out).bel⟩
  · have hcl : chkL (validB nm nd ev vol tot = true) E n from_ sec ev vol tot = [] := by unfold chkL; rw [if_neg (by rw [← her]; exact h0)]
    have HLe := Lib.hid hcl
    have n1 : (er == 0) = false := by simp [h0]
    clear hlong h40 hE hT her hcl hn1 hn2 h0
    go_enter Tryd.func3, Tryd.ntmps3
    go_wp2_with (first
      | (go_at_call 9
         with_reducible refine (SA.out _ H0.out.env).mono ?_
         rintro e w1 ⟨rfl, hb1⟩
         have H1 := Lib.hid (H0.out.call hb1)
         obtain ⟨p0, p1, p2, p3, p4⟩ := perm_cells H1.out.blk
         clear hb1)
      | (go_at_call 10
         with_reducible refine (SL.out _).mono ?_
         rintro e w2 ⟨rfl, hb2⟩
         have H2 := Lib.hid (H1.out.call hb2)
         obtain ⟨p0, p1, p2, p3, p4⟩ := perm_cells H2.out.blk
         clear hb2)
      | (go_at_call 11
         with_reducible refine (SC.out _ H2.out.env H2.out.ev).mono ?_
         rintro e w3 ⟨A3, N3, c3, rfl, hN3, hF3, hb3⟩
         rw [HLe.out] at hN3 hF3
         obtain rfl : N3 = 0 := hN3
         have H3 := Lib.hid (H2.out.call hb3)
         clear hF3 hb3))
    go_ret
    exact ⟨by simp, H3.out.bel⟩
end Go.Proofs.YtgbnbafigjijmaaDoor

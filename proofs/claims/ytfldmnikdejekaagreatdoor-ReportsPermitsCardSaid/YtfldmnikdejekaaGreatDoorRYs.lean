/- The reference's Years. -/
import Derived.Test.YtfldmnikdejekaaGreatDoorRYr
namespace Go.Proofs.YtfldmnikdejekaaGreatDoor
open Go.RowKit
set_option linter.unusedVariables false
set_option linter.unusedSimpArgs false

set_option maxRecDepth 100000 in
set_option maxHeartbeats 4000000 in
theorem ryears (nm nd : ByteArray) (ev vol tot : Int) (hn1 : nm.size ≤ maxLen) (hn2 : nd.size ≤ maxLen) (A : Option Addr) (n c : Nat) (E : Evs) (from_ sec : Int) (h40 : n ≤ 40) (w : World) (hT : EvIn w A n E) :
    Calls Tryz.prog 171 #[.agg #[.string nm, .string nd, .int .i64 ev, .int .i64 vol, .int .i64 tot], .slice A n c, .int .i64 from_, .int .i64 sec] w (YrsPost w (validB nm nd ev vol tot = true) E n from_ sec) := by
  have HT := Lib.hid hT
  have H40 := Lib.hid h40
  have SV := Lib.hid fun w => rvalid nm nd ev vol tot hn1 hn2 w
  obtain ⟨rb, hrb⟩ : ∃ rb : Bool, rb = true ↔ rightP E n := by
    by_cases h : rightP E n
    · exact ⟨true, by simp [h]⟩
    · exact ⟨false, by simp [h]⟩
  have SR := Lib.hid fun w hT => rright A n c E h40 w hT rb hrb
  have SI := Lib.hid fun w => rinst from_ w
  have HP0 := Lib.hid (perm_blk w nm nd ev vol tot)
  have HW0 : Hid (Below w.heap.size w (w.alloc (Obj.cells #[.string nm, .string nd, .int .i64 ev, .int .i64 vol, .int .i64 tot] 87))) := by show Below _ _ _; (repeat' (first | assumption | exact Below.refl _ _ | exact Below.size (by assumption) | (refine Below.setCell ?_ ?_ _) | (refine Below.alloc ?_ ?_ _) | (refine Below.drew ?_) | (refine below_drewN ?_ _) | (refine Below.trans ?_ (Below.mono ‹Below _ _ _› ?_)) | omega | (simp; done) | (simp; omega) | (simp at *; omega)))
  obtain ⟨V, hV⟩ : ∃ V, V = validB nm nd ev vol tot := ⟨_, rfl⟩
  rw [← hV] at SV ⊢
  cases V with
  | false =>
    have HE : Hid (yErr (false = true) E n from_ sec = 1) := yErr_bad (fun h => absurd h.1 (by simp))
    clear hrb hT h40 hn1 hn2 hV
    go_enter Tryz.func171, Tryz.ntmps171
    go_wp2_with (first
      | (go_at_call 51
         with_reducible refine (SV.out _).mono ?_
         rintro e w1 ⟨rfl, hb1⟩
         have HW1 := Lib.hid (below_step HW0.out hb1)
         clear hb1))
    go_ret2
    exact yrs_nil HE.out (by decide) HW1.out
  | true =>
    cases rb with
    | false =>
      have HE : Hid (yErr (true = true) E n from_ sec = 1) := yErr_bad (fun h => absurd (hrb.2 h.2) (by simp))
      clear hrb hT h40 hn1 hn2 hV
      go_enter Tryz.func171, Tryz.ntmps171
      go_wp2_with (first
        | (go_at_call 51
           with_reducible refine (SV.out _).mono ?_
           rintro e w1 ⟨rfl, hb1⟩
           have HW1 := Lib.hid (below_step HW0.out hb1)
           clear hb1)
        | (go_at_call 159
           with_reducible refine (SR.out _ ?_).mono ?_
           focus (exact HT.out.below (Nat.le_refl _) HW1.out)
           rintro e w2 ⟨rfl, hb2⟩
           have HW2 := Lib.hid (below_step HW1.out hb2)
           clear hb2))
      go_ret2
      exact yrs_nil HE.out (by decide) HW2.out
    | true =>
      have HRP : Hid (rightP E n) := hrb.1 rfl
      have HOK : Hid (true = true ∧ rightP E n) := ⟨rfl, HRP.out⟩
      clear hrb hT h40 hn1 hn2 hV
      by_cases hi : InstP from_
      · by_cases h1 : sec < 1
        · have HE : Hid (yErr (true = true) E n from_ sec = 2) := yErr_range HOK.out (fun h => absurd h.2.1 (by omega))
          have t1 : decide (sec < (1 : Int)) = true := decide_eq_true h1
          rw [decide_eq_true hi] at SI
          clear hi h1
          go_enter Tryz.func171, Tryz.ntmps171
          go_wp2_with (first
            | (go_at_call 51
               with_reducible refine (SV.out _).mono ?_
               rintro e w1 ⟨rfl, hb1⟩
               have HW1 := Lib.hid (below_step HW0.out hb1)
               clear hb1)
            | (go_at_call 159
               with_reducible refine (SR.out _ ?_).mono ?_
               focus (exact HT.out.below (Nat.le_refl _) HW1.out)
               rintro e w2 ⟨rfl, hb2⟩
               have HW2 := Lib.hid (below_step HW1.out hb2)
               clear hb2)
            | (go_at_call 224
               with_reducible refine (SI.out _).mono ?_
               rintro e w3 ⟨rfl, rfl⟩))
          go_ret2
          exact yrs_nil HE.out (by decide) HW2.out
        · have t1 : decide (sec < (1 : Int)) = false := decide_eq_false h1
          by_cases h2 : 86400 < sec
          · have HE : Hid (yErr (true = true) E n from_ sec = 2) := yErr_range HOK.out (fun h => absurd h.2.2 (by omega))
            have t2 : decide ((86400 : Int) < sec) = true := decide_eq_true h2
            rw [decide_eq_true hi] at SI
            clear hi h1 h2
            go_enter Tryz.func171, Tryz.ntmps171
            go_wp2_with (first
              | (go_at_call 51
                 with_reducible refine (SV.out _).mono ?_
                 rintro e w1 ⟨rfl, hb1⟩
                 have HW1 := Lib.hid (below_step HW0.out hb1)
                 clear hb1)
              | (go_at_call 159
                 with_reducible refine (SR.out _ ?_).mono ?_
                 focus (exact HT.out.below (Nat.le_refl _) HW1.out)
                 rintro e w2 ⟨rfl, hb2⟩
                 have HW2 := Lib.hid (below_step HW1.out hb2)
                 clear hb2)
              | (go_at_call 224
                 with_reducible refine (SI.out _).mono ?_
                 rintro e w3 ⟨rfl, rfl⟩))
            go_ret2
            exact yrs_nil HE.out (by decide) HW2.out
          · have t2 : decide ((86400 : Int) < sec) = false := decide_eq_false h2
            have HST : Hid (stepP from_ sec) := ⟨hi, by omega, by omega⟩
            rw [decide_eq_true hi] at SI
            obtain ⟨SI0, si0, sz0, sz1, sz2⟩ := info_parts1 infoI
            have SI1 := Lib.hid si0
            have SI2 := Lib.hid sz0
            have SI3 := Lib.hid sz1
            have SI4 := Lib.hid sz2
            clear hi h1 h2 si0 sz0 sz1 sz2
            go_enter Tryz.func171, Tryz.ntmps171
            go_wp2_with (first
              | (go_at_call 51
                 with_reducible refine (SV.out _).mono ?_
                 rintro e w1 ⟨rfl, hb1⟩
                 have HW1 := Lib.hid (below_step HW0.out hb1)
                 clear hb1)
              | (go_at_call 159
                 with_reducible refine (SR.out _ ?_).mono ?_
                 focus (exact HT.out.below (Nat.le_refl _) HW1.out)
                 rintro e w2 ⟨rfl, hb2⟩
                 have HW2 := Lib.hid (below_step HW1.out hb2)
                 clear hb2)
              | (go_at_call 224
                 with_reducible refine (SI.out _).mono ?_
                 rintro e w3 ⟨rfl, rfl⟩))
            have HT2 := Lib.hid (HT.out.below (Nat.le_refl _) HW2.out)
            go_loopw [10, 11] (fun u v wr => ∃ i : Nat, Hid (i ≤ n) ∧ Hid (∀ j, j < i → ers E from_ sec j = 0) ∧ v = .int .i64 i ∧ Hid (IMem w2 wr u i (yrs E from_ sec))) (fun _ v _ => n - (intOf v).toNat)
            case atStart => exact ⟨0, Nat.zero_le _, fun j hj => absurd hj (Nat.not_lt_zero _), rfl, World.ownsRow_nil _ _ _ _, Below.refl _ _⟩
            case round =>
              obtain ⟨i, Hi, HG, rfl, HQ⟩ := hrel
              obtain ⟨A8, cap8, h8⟩ := HQ.out.form
              subst h8
              have HN300 : Hid (i ≤ 300) := by show i ≤ 300; have h1 := Hi.out; have h4 := H40.out; omega
              by_cases hlt : i < n
              · have T0 : decide ((i : Int) < (n : Int)) = true := by simp <;> omega
                have T0' : decide (i < n) = true := decide_eq_true hlt
                obtain ⟨i', hi'⟩ : ∃ z, z = i + 1 := ⟨_, rfl⟩
                have x0 : IntKind.i64.wrap ((i : Int) + 1) = (i' : Int) := by have := H40.out; rw [IntKind.wrap_i64]; omega
                have HI' : Hid (i' ≤ n) := by show i' ≤ n; omega
                have HMS : Hid (n - (intOf (Value.int .i64 (i' : Int))).toNat < n - (intOf (Value.int .i64 (i : Int))).toNat) := by show _ < _; simp [intOf]; omega
                have k0 : (0 : Int) ≤ (i : Int) := by omega
                have k1 : (i : Int) < (n : Int) := by omega
                obtain ⟨b, off, rfl, hb, c0, c1, c2, c3⟩ := (HT2.out.below (Nat.le_refl _) HQ.out.2).at hlt
                have hbd := HRP.out.bounds hlt
                obtain ⟨f, hf⟩ : ∃ z, z = E.F i := ⟨_, rfl⟩
                obtain ⟨p, hp⟩ : ∃ z, z = sec * f := ⟨_, rfl⟩
                obtain ⟨t, ht⟩ : ∃ z, z = from_ + p := ⟨_, rfl⟩
                have htb := t_bound HST.out hbd.1 (by omega)
                have hsb := HST.out
                unfold stepP InstP at hsb
                rw [← hf] at htb
                have x1 : IntKind.i64.wrap (sec * f) = p := by rw [← hp, IntKind.wrap_i64]; omega
                have x2 : IntKind.i64.wrap (from_ + p) = t := by rw [← ht, IntKind.wrap_i64]; omega
                have SS := Lib.hid fun w => rsplit t (yearOf t) (errOf t) (time_is t) w
                obtain ⟨y, hy⟩ : ∃ z, z = yearOf t := ⟨_, rfl⟩
                obtain ⟨er, her⟩ : ∃ z, z = errOf t := ⟨_, rfl⟩
                rw [← hy, ← her] at SS
                rw [← hf] at c0
                have hyr : y = yrs E from_ sec i := by rw [hy, ht, hp, hf]; rfl
                have her2 : ers E from_ sec i = er := by rw [her, ht, hp, hf]; rfl
                have HLT := Lib.hid hlt
                have HYR := Lib.hid hyr
                have HER := Lib.hid her2
                have HI1 := Lib.hid hi'
                clear hlt hi' hbd hf hp ht htb hsb hy her hyr her2
                go_upto_region 10 with (first
                  | (go_at_call 225
                     with_reducible refine (SS.out _).mono ?_
                     rintro e w4 ⟨⟨mo, da, se, rfl⟩, hb4⟩
                     have HQ4 := Lib.hid (HQ.out.call hb4)
                     clear hb4))
                have hal : Below w4.heap.size w4 (w4.alloc (Obj.cells #[.int .i64 y, .int .i64 mo, .int .i64 da] 262)) := (Below.refl _ w4).alloc (Nat.le_refl _) _
                have HQ5 := Lib.hid (HQ4.out.call hal)
                have BD5 := Lib.hid (Blk.new w4 262 #[.int .i64 y, .int .i64 mo, .int .i64 da])
                obtain ⟨gd, hgd⟩ : ∃ z, z = w4.heap.size := ⟨_, rfl⟩
                rw [← hgd] at BD5 ⊢
                clear hal HQ4 hgd c0 c1 c2 c3 hb
                generalize (w4.alloc (Obj.cells #[.int .i64 y, .int .i64 mo, .int .i64 da] 262)) = w5 at HQ5 BD5 ⊢
                obtain ⟨d0, d1, d2⟩ := date_cells BD5.out
                by_cases hz : er = 0
                · have t9 : (er == 0) = true := by simp [hz]
                  have HG' : Hid (∀ j, j < i' → ers E from_ sec j = 0) := by
                    show ∀ j, j < i' → _
                    intro j hj
                    rcases Nat.lt_or_ge j i with g | g
                    · exact HG.out j g
                    · obtain rfl : j = i := by have := HI1.out; omega
                      rw [HER.out]; exact hz
                  clear hz
                  go_wp2_with (first
                    | (at_builtin; refine wpList_append_own_at _ ?paa (.tmp 57) (.tmp 60) 46 ?pab (w2.heap.size) 3 SI0 (.int .i64 0) 1 8 Tryz.underlying46 SI1.out SI2.out SI3.out SI4.out ?pac ?pad (.slice A8 i cap8) (i) (ic (yrs E from_ sec) i) ?pae (HQ5.out.1.alloc _) (⟨w5.heap.size, 0, none⟩) (1) (1) ([.int .i64 y]) ?pag (rfl) (World.news_of_block (cs := #[.int .i64 y]) (t := 3) (fr := (0, 0)) (heap_alloc_new _ _)) ((by simp [Value.oneCell'])) (h63_i HN300.out) (hby_i HN300.out) (Nat.le_trans HQ5.out.2.size (by simp)) ?pah
                       case paa => exact rfl
                       case pab => exact rfl
                       case pac => exact rfl
                       case pad => decide
                       case pae => exact rfl
                       case pag => exact rfl
                       intro v2 w7 hown2 hgrow2 hnil2 hat2
                       have HM7 := HQ5.out.app HYR.out hown2 hgrow2
                       rw [← HI1.out] at HM7
                       have HM8 := Lib.hid HM7
                       clear hown2 hgrow2 hnil2 hat2 HM7))
                  go_roundw
                  case rel => exact ⟨i', HI', HG', rfl, HM8⟩
                  case measure => exact HMS.out
                · have t9 : (er == 0) = false := by simp [hz]
                  have HE : Hid (yErr (true = true) E n from_ sec = er) := by
                    show yErr (true = true) E n from_ sec = er
                    exact (yErr_fe ⟨rfl, HRP.out⟩ HST.out).trans ((fe_at HG.out (by rw [HER.out]; exact hz) HLT.out).trans HER.out)
                  have HZ := Lib.hid hz
                  clear hz
                  go_wp2_with fail
                  go_ret2
                  exact yrs_nil HE.out HZ.out (below_step HW2.out HQ5.out.2)
              · have hin : i = n := by have := Hi.out; omega
                have T0 : decide ((i : Int) < (n : Int)) = false := by simp <;> omega
                have T0' : decide (i < n) = false := decide_eq_false hlt
                subst hin
                have HE : Hid (yErr (true = true) E i from_ sec = 0) := by
                  show yErr (true = true) E i from_ sec = 0
                  exact (yErr_fe ⟨rfl, HRP.out⟩ HST.out).trans (fe_zero.2 HG.out)
                clear hlt
                go_wp2_with fail
                go_ret2
                exact ⟨A8, i, cap8, 0, rfl, HE.out.symm, fun _ => ⟨rfl, HQ.out.int HN300.out⟩, below_step HW2.out HQ.out.2⟩
      · have HE : Hid (yErr (true = true) E n from_ sec = 2) := yErr_range HOK.out (fun h => hi h.1)
        rw [decide_eq_false hi] at SI
        clear hi
        go_enter Tryz.func171, Tryz.ntmps171
        go_wp2_with (first
          | (go_at_call 51
             with_reducible refine (SV.out _).mono ?_
             rintro e w1 ⟨rfl, hb1⟩
             have HW1 := Lib.hid (below_step HW0.out hb1)
             clear hb1)
          | (go_at_call 159
             with_reducible refine (SR.out _ ?_).mono ?_
             focus (exact HT.out.below (Nat.le_refl _) HW1.out)
             rintro e w2 ⟨rfl, hb2⟩
             have HW2 := Lib.hid (below_step HW1.out hb2)
             clear hb2)
          | (go_at_call 224
             with_reducible refine (SI.out _).mono ?_
             rintro e w3 ⟨rfl, rfl⟩))
        go_ret2
        exact yrs_nil HE.out (by decide) HW2.out
end Go.Proofs.YtfldmnikdejekaaGreatDoor

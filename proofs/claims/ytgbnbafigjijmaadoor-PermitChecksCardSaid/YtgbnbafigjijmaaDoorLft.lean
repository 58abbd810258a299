/- The package's Left and Merge. -/
import Derived.Test.YtgbnbafigjijmaaDoorYrs
import Derived.Test.YtgbnbafigjijmaaDoorPrmQ
namespace Go.Proofs.YtgbnbafigjijmaaDoor
open Go.RowKit
set_option linter.unusedVariables false
set_option linter.unusedSimpArgs false

/-- What Left answers. -/
noncomputable def leftRes (ok : Prop) (E : Evs) (n : Nat) (from_ sec t ev tot : Int) : Value :=
  if leftE ok E n from_ sec t = 0 then .tuple #[.int .i64 (leftN E n from_ sec t ev), .int .i64 (leftV E n from_ sec t tot), .int .i64 0] else .tuple #[.int .i64 0, .int .i64 0, .int .i64 (leftE ok E n from_ sec t)]
theorem left_bad {ok : Prop} {E : Evs} {n : Nat} {from_ sec t ev tot er : Int} (h : leftE ok E n from_ sec t = er) (h0 : er ≠ 0) : leftRes ok E n from_ sec t ev tot = .tuple #[.int .i64 0, .int .i64 0, .int .i64 er] := by
  unfold leftRes; rw [h, if_neg h0]
theorem acc_cells {w : World} {g : Nat} {t : TypeId} {a b : Value} (h : Blk w g t #[a, b]) : w.cell? ⟨g, 0, none⟩ = some a ∧ w.cell? ⟨g, 1, none⟩ = some b := ⟨h.cell 0, h.cell 1⟩
theorem ev_cells {w : World} {g : Nat} {t : TypeId} {a b c d : Value} (h : Blk w g t #[a, b, c, d]) : w.cell? ⟨g, 0, none⟩ = some a ∧ w.cell? ⟨g, 1, none⟩ = some b ∧ w.cell? ⟨g, 2, none⟩ = some c ∧ w.cell? ⟨g, 3, none⟩ = some d := ⟨h.cell 0, h.cell 1, h.cell 2, h.cell 3⟩
def LMem (w wr : World) (g : Nat) (a b : Int) : Prop := Blk wr g 70 #[.int .i64 a, .int .i64 b] ∧ w.heap.size ≤ g ∧ Below w.heap.size w wr
theorem LMem.call {w wr w' : World} {g : Nat} {a b : Int} (h : LMem w wr g a b) (hb : Below wr.heap.size wr w') : LMem w w' g a b := ⟨h.1.call hb, h.2.1, below_step h.2.2 hb⟩
theorem LMem.set {w wr : World} {g : Nat} {a b c d : Int} (h : LMem w wr g a b) : LMem w ((wr.setCell ⟨g, 0, none⟩ (.int .i64 c)).setCell ⟨g, 1, none⟩ (.int .i64 d)) g c d :=
  ⟨(h.1.set_ 0 _).set_ 1 _, h.2.1, (h.2.2.setCell (p := ⟨g, 0, none⟩) h.2.1 _).setCell (p := ⟨g, 1, none⟩) h.2.1 _⟩
set_option maxRecDepth 100000 in
set_option maxHeartbeats 4000000 in
theorem tleft (nm nd : ByteArray) (ev vol tot : Int) (hn1 : nm.size ≤ maxLen) (hn2 : nd.size ≤ maxLen) (A : Option Addr) (n c : Nat) (E : Evs) (from_ sec t : Int) (h40 : n ≤ 40) (w : World) (hT : EvIn w A n E) :
    Calls Tryd.prog 21 #[.agg #[.string nm, .string nd, .int .i64 ev, .int .i64 vol, .int .i64 tot], .slice A n c, .int .i64 from_, .int .i64 sec, .int .i64 t] w fun e w' => e = .returned (leftRes (validB nm nd ev vol tot = true) E n from_ sec t ev tot) ∧ Below w.heap.size w w' := by
  have HT := Lib.hid hT
  have H40 := Lib.hid h40
  have SY := Lib.hid fun w hT => tyears nm nd ev vol tot hn1 hn2 A n c E from_ sec h40 w hT
  have HP0 := Lib.hid (perm_blk w nm nd ev vol tot)
  have HW0 : Hid (Below w.heap.size w (w.alloc (Obj.cells #[.string nm, .string nd, .int .i64 ev, .int .i64 vol, .int .i64 tot] 23))) := by show Below _ _ _; (repeat' (first | assumption | exact Below.refl _ _ | exact Below.size (by assumption) | (refine Below.setCell ?_ ?_ _) | (refine Below.alloc ?_ ?_ _) | (refine Below.drew ?_) | (refine below_drewN ?_ _) | (refine Below.trans ?_ (Below.mono ‹Below _ _ _› ?_)) | omega | (simp; done) | (simp; omega) | (simp at *; omega)))
  have HTA : Hid (EvIn (w.alloc (Obj.cells #[.string nm, .string nd, .int .i64 ev, .int .i64 vol, .int .i64 tot] 23)) A n E) := HT.out.below (Nat.le_refl _) HW0.out
  have SYT := Lib.hid fun w => tyear t (yearOf t) (errOf t) (time_is t) w
  by_cases hE : yErr (validB nm nd ev vol tot = true) E n from_ sec = 0
  · obtain ⟨hok, hrp, hst, hyr⟩ := yErr_zero hE
    have HRP := Lib.hid hrp
    have HST := Lib.hid hst
    by_cases het : errOf t = 0
    · have HL : Hid (leftRes (validB nm nd ev vol tot = true) E n from_ sec t ev tot = .tuple #[.int .i64 (leftN E n from_ sec t ev), .int .i64 (leftV E n from_ sec t tot), .int .i64 0]) := by
        show _ = _
        unfold leftRes
        rw [if_pos (show leftE _ E n from_ sec t = 0 by unfold leftE; rw [if_pos hE]; exact het)]
      have HVL : Hid (limR ev vol tot) := (validB_true.1 hok).2.2
      have HE := Lib.hid hE
      rw [het] at SYT
      obtain ⟨yt, hyt⟩ : ∃ z, z = yearOf t := ⟨_, rfl⟩
      rw [← hyt] at SYT
      have HYT := Lib.hid hyt
      rw [HL.out]
      clear hE hok hrp hst hyr het hyt hT h40 hn1 hn2
      go_enter Tryd.func21, Tryd.ntmps21
      go_wp2_with (first
        | (go_at_call 29
           with_reducible refine (SY.out _ HTA.out).mono ?_
           rintro e w1 ⟨A1, N1, cap1, er, rfl, her, hI, hb1⟩
           obtain rfl : 0 = er := HE.out.symm.trans her.symm
           obtain ⟨hN, hJ⟩ := hI rfl
           clear hI
           obtain rfl := hN.symm
           have HI1 := Lib.hid hJ
           have HW1 := Lib.hid (below_step HW0.out hb1)
           have HP1 := Lib.hid (HP0.out.call hb1)
           clear hJ hb1 her hN)
        | (go_at_call 45
           with_reducible refine (SYT.out _).mono ?_
           rintro e w2 ⟨rfl, hb2⟩
           have HI2 := Lib.hid (HI1.out.below (Nat.le_refl _) hb2)
           have HW2 := Lib.hid (below_step HW1.out hb2)
           have HP2 := Lib.hid (HP1.out.call hb2)
           clear hb2))
      have HT2 := Lib.hid (HT.out.below (Nat.le_refl _) HW2.out)
      have HL0 : Hid (LMem w2 (w2.alloc (Obj.cells #[.int .i64 0, .int .i64 0] 70)) w2.heap.size 0 0) := ⟨Blk.new _ _ _, Nat.le_refl _, by (repeat' (first | assumption | exact Below.refl _ _ | exact Below.size (by assumption) | (refine Below.setCell ?_ ?_ _) | (refine Below.alloc ?_ ?_ _) | (refine Below.drew ?_) | (refine below_drewN ?_ _) | (refine Below.trans ?_ (Below.mono ‹Below _ _ _› ?_)) | omega | (simp; done) | (simp; omega) | (simp at *; omega)))⟩
      go_loopw [40] (fun v wr => ∃ (i : Nat) (a b : Int), Hid (i ≤ n) ∧ v = .int .i64 i ∧ Hid (a = (cntW (cntAt E from_ sec t) i : Int)) ∧ Hid (b = cutS (smW (cntAt E from_ sec t) E.Tot i)) ∧ Hid (LMem w2 wr w2.heap.size a b)) (fun v _ => n - (intOf v).toNat)
      case atStart => exact ⟨0, 0, 0, Nat.zero_le _, rfl, rfl, cut_zero.symm, HL0⟩
      case round =>
        obtain ⟨i, a, b, Hi, rfl, Ha, Hb, HL2⟩ := hrel
        by_cases hlt : i < n
        · have T0 : decide ((i : Int) < (n : Int)) = true := by simp <;> omega
          obtain ⟨i', hi'⟩ : ∃ z, z = i + 1 := ⟨_, rfl⟩
          have x0 : IntKind.i64.wrap ((i : Int) + 1) = (i' : Int) := by have := H40.out; rw [IntKind.wrap_i64]; omega
          have HI' : Hid (i' ≤ n) := by show i' ≤ n; omega
          have HMS : Hid (n - (intOf (Value.int .i64 (i' : Int))).toNat < n - (intOf (Value.int .i64 (i : Int))).toNat) := by show _ < _; simp [intOf]; omega
          have k0 : (0 : Int) ≤ (i : Int) := by omega
          have k1 : (i : Int) < (n : Int) := by omega
          obtain ⟨eb, eoff, rfl, heb, c0, c1, c2, c3⟩ := (HT2.out.below (Nat.le_refl _) HL2.out.2.2).at hlt
          obtain ⟨yb, yoff, rfl, hyb, cy⟩ := (HI2.out.below (Nat.le_refl _) HL2.out.2.2).at hlt
          have hbd := HRP.out.bounds hlt
          obtain ⟨f, hf⟩ : ∃ z, z = E.F i := ⟨_, rfl⟩
          obtain ⟨tt, htt⟩ : ∃ z, z = E.Tot i := ⟨_, rfl⟩
          obtain ⟨tm, htm⟩ : ∃ z, z = from_ + sec * f := ⟨_, rfl⟩
          obtain ⟨y, hy⟩ : ∃ z, z = yrs E from_ sec i := ⟨_, rfl⟩
          have SB := fun t' tt pk w => tbegin f t' tt pk from_ sec HST.out (by rw [hf]; exact hbd.1) (by rw [hf]; omega) w
          rw [← htm] at SB
          have SB := Lib.hid SB
          have hla : 0 ≤ a ∧ a ≤ 40 := by have h1 := cntW_le (cntAt E from_ sec t) i; have h2 := Ha.out; have h3 := H40.out; omega
          have hlb : 0 ≤ b ∧ b ≤ 576460752303423489 := by
            rw [Hb.out]
            exact ⟨cut_nn (smW_nn i fun j hj => by have := HRP.out.bounds (show j < n by omega); omega), cut_le _⟩
          have SW := Lib.hid fun f' t' pk w => twith a b f' t' tt pk hla.1 (by omega) hlb.1 hlb.2 (by rw [htt]; omega) w
          rw [← hf] at c0
          rw [← htt] at c2
          rw [← hy] at cy
          have hcnt : cntAt E from_ sec t i = decide (y = yt ∧ tm < t) := by unfold cntAt; rw [← hy, ← HYT.out, ← hf, ← htm]
          have hA1 : ∀ p : Bool, cntAt E from_ sec t i = p → (cntW (cntAt E from_ sec t) i' : Int) = a + (if p = true then 1 else 0) := by
            intro p hp
            rw [hi', Ha.out]
            show ((cntW _ i + (if cntAt E from_ sec t i = true then 1 else 0) : Nat) : Int) = _
            rw [hp]; split <;> omega
          have hB1 : ∀ p : Bool, cntAt E from_ sec t i = p → smW (cntAt E from_ sec t) E.Tot i' = smW (cntAt E from_ sec t) E.Tot i + (if p = true then tt else 0) := by
            intro p hp
            rw [hi', htt, ← hp]; rfl
          obtain ⟨g0, g1⟩ := acc_cells HL2.out.1
          have gl := HL2.out.1.lt
          by_cases hyy : y = yt
          · have u1 : (y == yt) = true := by simp [hyy]
            by_cases htt2 : tm < t
            · have u2 : decide (tm < t) = true := decide_eq_true htt2
              have hp : cntAt E from_ sec t i = true := by rw [hcnt]; exact decide_eq_true ⟨hyy, htt2⟩
              have HA2 : Hid (a + 1 = (cntW (cntAt E from_ sec t) i' : Int)) := by show _ = _; rw [hA1 _ hp]; rfl
              have HB2 : Hid (cutS (b + cutS tt) = cutS (smW (cntAt E from_ sec t) E.Tot i')) := by
                show _ = _
                rw [hB1 _ hp, Hb.out, if_pos rfl]
                exact cut_add (smW_nn i fun j hj => by have := HRP.out.bounds (show j < n by omega); omega) (by rw [htt]; omega)
              clear hi' hlt hbd hf htt htm hy hla hlb hcnt hA1 hB1 hyy htt2 hp
              go_wp2_with (first
                | (go_at_call 46
                   with_reducible refine (SB.out _ _ _ _).mono ?_
                   rintro e w4 ⟨rfl, hb4⟩
                   have HL4 := Lib.hid (HL2.out.call (w' := w4) (by have := Below.refl wr.heap.size wr; (repeat' (first | assumption | exact Below.refl _ _ | exact Below.size (by assumption) | (refine Below.setCell ?_ ?_ _) | (refine Below.alloc ?_ ?_ _) | (refine Below.drew ?_) | (refine below_drewN ?_ _) | (refine Below.trans ?_ (Below.mono ‹Below _ _ _› ?_)) | omega | (simp; done) | (simp; omega) | (simp at *; omega)))))
                   have HE4 := ev_cells ((Blk.new wr 33 #[.int .i64 f, .int .i64 (E.To i), .int .i64 tt, .int .i64 (E.Pk i)]).call hb4)
                   obtain ⟨q0, q1, q2, q3⟩ := HE4
                   obtain ⟨z0, z1⟩ := acc_cells HL4.out.1
                   clear hb4)
                | (go_at_call 30
                   with_reducible refine (SW.out _ _ _ _).mono ?_
                   rintro e w5 ⟨rfl, hb5⟩
                   have HL5 := Lib.hid (HL4.out.call hb5)
                   obtain ⟨y0, y1⟩ := acc_cells HL5.out.1
                   have y2 := HL5.out.1.frozen 0
                   have y3 := HL5.out.1.frozen 1
                   have y4 := HL5.out.1.lt
                   clear hb5))
              have HM := Lib.hid (HL5.out.set (c := a + 1) (d := cutS (b + cutS tt)))
              go_roundw
              case rel => exact ⟨i', _, _, HI', rfl, HA2, HB2, HM⟩
              case measure => exact HMS.out
            · have u2 : decide (tm < t) = false := decide_eq_false htt2
              have hp : cntAt E from_ sec t i = false := by rw [hcnt]; exact decide_eq_false fun h => htt2 h.2
              have HA2 : Hid (a = (cntW (cntAt E from_ sec t) i' : Int)) := by show _ = _; rw [hA1 _ hp]; simp
              have HB2 : Hid (b = cutS (smW (cntAt E from_ sec t) E.Tot i')) := by
                show _ = _
                rw [hB1 _ hp, Hb.out]; simp
              clear hi' hlt hbd hf htt htm hy hla hlb hcnt hA1 hB1 hyy htt2 hp
              go_wp2_with (first
                | (go_at_call 46
                   with_reducible refine (SB.out _ _ _ _).mono ?_
                   rintro e w4 ⟨rfl, hb4⟩
                   have HL4 := Lib.hid (HL2.out.call (w' := w4) (by have := Below.refl wr.heap.size wr; (repeat' (first | assumption | exact Below.refl _ _ | exact Below.size (by assumption) | (refine Below.setCell ?_ ?_ _) | (refine Below.alloc ?_ ?_ _) | (refine Below.drew ?_) | (refine below_drewN ?_ _) | (refine Below.trans ?_ (Below.mono ‹Below _ _ _› ?_)) | omega | (simp; done) | (simp; omega) | (simp at *; omega)))))
                   clear hb4))
              go_roundw
              case rel => exact ⟨i', _, _, HI', rfl, HA2, HB2, HL4⟩
              case measure => exact HMS.out
          · have u1 : (y == yt) = false := by simp [hyy]
            have hp : cntAt E from_ sec t i = false := by rw [hcnt]; exact decide_eq_false fun h => hyy h.1
            have HA2 : Hid (a = (cntW (cntAt E from_ sec t) i' : Int)) := by show _ = _; rw [hA1 _ hp]; simp
            have HB2 : Hid (b = cutS (smW (cntAt E from_ sec t) E.Tot i')) := by
              show _ = _
              rw [hB1 _ hp, Hb.out]; simp
            clear hi' hlt hbd hf htt htm hy hla hlb hcnt hA1 hB1 hyy hp
            have HL4 : Hid (LMem w2 (wr.alloc (Obj.cells #[.int .i64 f, .int .i64 (E.To i), .int .i64 tt, .int .i64 (E.Pk i)] 33)) w2.heap.size a b) := HL2.out.call (by have := Below.refl wr.heap.size wr; (repeat' (first | assumption | exact Below.refl _ _ | exact Below.size (by assumption) | (refine Below.setCell ?_ ?_ _) | (refine Below.alloc ?_ ?_ _) | (refine Below.drew ?_) | (refine below_drewN ?_ _) | (refine Below.trans ?_ (Below.mono ‹Below _ _ _› ?_)) | omega | (simp; done) | (simp; omega) | (simp at *; omega))))
            go_wp2_with fail
            go_roundw
            case rel => exact ⟨i', _, _, HI', rfl, HA2, HB2, HL4⟩
            case measure => exact HMS.out
        · have hin : i = n := by have := Hi.out; omega
          have T0 : decide ((i : Int) < (n : Int)) = false := by simp <;> omega
          have T0' : decide (i < n) = false := decide_eq_false hlt
          obtain ⟨z0, z1⟩ := acc_cells HL2.out.1
          obtain ⟨p0, p1, p2, p3, p4⟩ := perm_cells (HP2.out.call (HL2.out.2.2))
          have hlim := HVL.out
          unfold limR at hlim
          have hla : 0 ≤ a ∧ a ≤ 40 := by have h1 := cntW_le (cntAt E from_ sec t) i; have h2 := Ha.out; have h3 := H40.out; omega
          have hlb : 0 ≤ b ∧ b ≤ 576460752303423489 := by
            rw [Hb.out]
            exact ⟨cut_nn (smW_nn i fun j hj => by have := HRP.out.bounds (show j < n by omega); omega), cut_le _⟩
          obtain ⟨d1, hd1⟩ : ∃ z, z = ev - a := ⟨_, rfl⟩
          obtain ⟨d2, hd2⟩ : ∃ z, z = tot - b := ⟨_, rfl⟩
          have v1 : IntKind.i64.wrap (ev - a) = d1 := by rw [IntKind.wrap_i64]; omega
          have v2 : IntKind.i64.wrap (tot - b) = d2 := by rw [IntKind.wrap_i64]; omega
          have m1 : max 0 d1 = leftN E n from_ sec t ev := by rw [hd1, Ha.out, ← hin]; rfl
          have m2 : max 0 d2 = leftV E n from_ sec t tot := by rw [hd2, Hb.out, ← hin]; rfl
          clear hlt hin hlim hla hlb hd1 hd2
          go_wp2_with fail
          go_quiet (fail)
          go_wp2_with fail
          refine bodyPost_ret (v := .tuple #[.int .i64 (leftN E n from_ sec t ev), .int .i64 (leftV E n from_ sec t tot), .int .i64 0]) (by simp [results, Tryd.results21, go_sem]) rfl ⟨rfl, ?_⟩
          have := below_step HW2.out HL2.out.2.2
          (repeat' (first | assumption | exact Below.refl _ _ | exact Below.size (by assumption) | (refine Below.setCell ?_ ?_ _) | (refine Below.alloc ?_ ?_ _) | (refine Below.drew ?_) | (refine below_drewN ?_ _) | (refine Below.trans ?_ (Below.mono ‹Below _ _ _› ?_)) | omega | (simp; done) | (simp; omega) | (simp at *; omega)))
    · have HL : Hid (leftRes (validB nm nd ev vol tot = true) E n from_ sec t ev tot = .tuple #[.int .i64 0, .int .i64 0, .int .i64 (errOf t)]) := left_bad (by unfold leftE; rw [if_pos hE]) het
      have HE := Lib.hid hE
      obtain ⟨er2, he2⟩ : ∃ z, z = errOf t := ⟨_, rfl⟩
      rw [HL.out]
      rw [← he2] at SYT het ⊢
      have u1 : (er2 == 0) = false := by simp [het]
      clear hE hok hrp hst hyr het he2 hT h40 hn1 hn2
      go_enter Tryd.func21, Tryd.ntmps21
      go_wp2_with (first
        | (go_at_call 29
           with_reducible refine (SY.out _ HTA.out).mono ?_
           rintro e w1 ⟨A1, N1, cap1, er, rfl, her, hI, hb1⟩
           obtain rfl : 0 = er := HE.out.symm.trans her.symm
           have HW1 := Lib.hid (below_step HW0.out hb1)
           clear hI hb1 her)
        | (go_at_call 45
           with_reducible refine (SYT.out _).mono ?_
           rintro e w2 ⟨rfl, hb2⟩
           have HW2 := Lib.hid (below_step HW1.out hb2)
           clear hb2))
      refine bodyPost_ret (v := .tuple #[.int .i64 0, .int .i64 0, .int .i64 er2]) (by simp [results, Tryd.results21, go_sem]) rfl ⟨rfl, HW2.out⟩
  · obtain ⟨er1, he1⟩ : ∃ z, z = yErr (validB nm nd ev vol tot = true) E n from_ sec := ⟨_, rfl⟩
    have HL : Hid (leftRes (validB nm nd ev vol tot = true) E n from_ sec t ev tot = .tuple #[.int .i64 0, .int .i64 0, .int .i64 er1]) := left_bad (by unfold leftE; rw [if_neg hE, he1]) (by rw [he1]; exact hE)
    have HE := Lib.hid he1
    rw [← he1] at hE
    have u1 : (er1 == 0) = false := by simp [hE]
    rw [HL.out]
    clear he1 hE hT h40 hn1 hn2
    go_enter Tryd.func21, Tryd.ntmps21
    go_wp2_with (first
      | (go_at_call 29
         with_reducible refine (SY.out _ HTA.out).mono ?_
         rintro e w1 ⟨A1, N1, cap1, er, rfl, her, hI, hb1⟩
         obtain rfl : er1 = er := HE.out.trans her.symm
         have HW1 := Lib.hid (below_step HW0.out hb1)
         clear hI hb1 her))
    refine bodyPost_ret (v := .tuple #[.int .i64 0, .int .i64 0, .int .i64 er1]) (by simp [results, Tryd.results21, go_sem]) rfl ⟨rfl, HW1.out⟩
theorem blk5_set {w : World} {g : Nat} {t : TypeId} {cs : Array Value} {a b c d e : Value} (h : Blk w g t cs) (hc : cs.size = 5) : Blk (((((w.setCell ⟨g, 0, none⟩ a).setCell ⟨g, 1, none⟩ b).setCell ⟨g, 2, none⟩ c).setCell ⟨g, 3, none⟩ d).setCell ⟨g, 4, none⟩ e) g t #[a, b, c, d, e] := by
  obtain ⟨l⟩ := cs
  match l, hc with
  | [x0, x1, x2, x3, x4], _ => exact ((((h.set_ 0 _).set_ 1 _).set_ 2 _).set_ 3 _).set_ 4 _
theorem bytes_ext39 {a b : ByteArray} (h : a.toList = b.toList) : a = b := by
  rw [ByteArray.toList_eq, ByteArray.toList_eq] at h
  obtain ⟨⟨l⟩⟩ := a
  obtain ⟨⟨m⟩⟩ := b
  have : l = m := h
  rw [this]
def zeroPm : Value := .agg #[.string ⟨#[]⟩, .string ⟨#[]⟩, .int .i64 0, .int .i64 0, .int .i64 0]
/-- What Merge answers. -/
def mergeRes (nm nd : ByteArray) (ev vol tot : Int) (qm qd : ByteArray) (ev' vol' tot' : Int) : Value :=
  if validB nm nd ev vol tot = true ∧ validB qm qd ev' vol' tot' = true then (if nd = qd then .tuple #[.agg #[.string nm, .string nd, .int .i64 (min ev ev'), .int .i64 (min vol vol'), .int .i64 (min tot tot')], .int .i64 0] else .tuple #[zeroPm, .int .i64 25]) else .tuple #[zeroPm, .int .i64 1]
theorem merge_end {w wx : World} {cs : Array Value} {a b c d e : Value} (h : Blk wx (w.heap.size + 1 + 1) 23 cs) (hc : cs.size = 5) (hb : Below w.heap.size w wx) :
    Blk (((((wx.setCell ⟨w.heap.size + 1 + 1, 0, none⟩ a).setCell ⟨w.heap.size + 1 + 1, 1, none⟩ b).setCell ⟨w.heap.size + 1 + 1, 2, none⟩ c).setCell ⟨w.heap.size + 1 + 1, 3, none⟩ d).setCell ⟨w.heap.size + 1 + 1, 4, none⟩ e) (w.heap.size + 1 + 1) 23 #[a, b, c, d, e] ∧
    Below w.heap.size w (((((wx.setCell ⟨w.heap.size + 1 + 1, 0, none⟩ a).setCell ⟨w.heap.size + 1 + 1, 1, none⟩ b).setCell ⟨w.heap.size + 1 + 1, 2, none⟩ c).setCell ⟨w.heap.size + 1 + 1, 3, none⟩ d).setCell ⟨w.heap.size + 1 + 1, 4, none⟩ e) :=
  ⟨blk5_set h hc, ((((hb.setCell (p := ⟨w.heap.size + 1 + 1, 0, none⟩) (by show w.heap.size ≤ w.heap.size + 1 + 1; omega) _).setCell (p := ⟨w.heap.size + 1 + 1, 1, none⟩) (by show w.heap.size ≤ w.heap.size + 1 + 1; omega) _).setCell (p := ⟨w.heap.size + 1 + 1, 2, none⟩) (by show w.heap.size ≤ w.heap.size + 1 + 1; omega) _).setCell (p := ⟨w.heap.size + 1 + 1, 3, none⟩) (by show w.heap.size ≤ w.heap.size + 1 + 1; omega) _).setCell (p := ⟨w.heap.size + 1 + 1, 4, none⟩) (by show w.heap.size ≤ w.heap.size + 1 + 1; omega) _⟩
theorem frozen5 {w : World} {g : Nat} {t : TypeId} {cs : Array Value} (h : Blk w g t cs) : w.frozen? ⟨g, 0, none⟩ = false ∧ w.frozen? ⟨g, 1, none⟩ = false ∧ w.frozen? ⟨g, 2, none⟩ = false ∧ w.frozen? ⟨g, 3, none⟩ = false ∧ w.frozen? ⟨g, 4, none⟩ = false := ⟨h.frozen 0, h.frozen 1, h.frozen 2, h.frozen 3, h.frozen 4⟩
set_option maxRecDepth 100000 in
set_option maxHeartbeats 4000000 in
theorem tmerge (nm nd : ByteArray) (ev vol tot : Int) (qm qd : ByteArray) (ev' vol' tot' : Int) (hn1 : nm.size ≤ maxLen) (hn2 : nd.size ≤ maxLen) (hn3 : qm.size ≤ maxLen) (hn4 : qd.size ≤ maxLen) (w : World) :
    Calls Tryd.prog 23 #[.agg #[.string nm, .string nd, .int .i64 ev, .int .i64 vol, .int .i64 tot], .agg #[.string qm, .string qd, .int .i64 ev', .int .i64 vol', .int .i64 tot']] w fun e w' => e = .returned (mergeRes nm nd ev vol tot qm qd ev' vol' tot') ∧ Below w.heap.size w w' := by
  have S1 := Lib.hid fun w => tvalid nm nd ev vol tot hn1 hn2 w
  have S2 := Lib.hid fun w => tvalid qm qd ev' vol' tot' hn3 hn4 w
  obtain ⟨R, hR⟩ : ∃ R, R = mergeRes nm nd ev vol tot qm qd ev' vol' tot' := ⟨_, rfl⟩
  rw [← hR]
  unfold mergeRes at hR
  have BA : Hid (Blk (((w.alloc (Obj.cells #[.string nm, .string nd, .int .i64 ev, .int .i64 vol, .int .i64 tot] 23)).alloc (Obj.cells #[.string qm, .string qd, .int .i64 ev', .int .i64 vol', .int .i64 tot'] 23)).alloc (Obj.cells #[.string ⟨#[]⟩, .string ⟨#[]⟩, .int .i64 0, .int .i64 0, .int .i64 0] 23)) w.heap.size 23 #[.string nm, .string nd, .int .i64 ev, .int .i64 vol, .int .i64 tot]) := ((Blk.new _ _ _).alloc _).alloc _
  have BB : Hid (Blk (((w.alloc (Obj.cells #[.string nm, .string nd, .int .i64 ev, .int .i64 vol, .int .i64 tot] 23)).alloc (Obj.cells #[.string qm, .string qd, .int .i64 ev', .int .i64 vol', .int .i64 tot'] 23)).alloc (Obj.cells #[.string ⟨#[]⟩, .string ⟨#[]⟩, .int .i64 0, .int .i64 0, .int .i64 0] 23)) (w.heap.size + 1) 23 #[.string qm, .string qd, .int .i64 ev', .int .i64 vol', .int .i64 tot']) := by
    have h := (Blk.new (w.alloc (Obj.cells #[.string nm, .string nd, .int .i64 ev, .int .i64 vol, .int .i64 tot] 23)) 23 #[.string qm, .string qd, .int .i64 ev', .int .i64 vol', .int .i64 tot']).alloc (Obj.cells #[.string ⟨#[]⟩, .string ⟨#[]⟩, .int .i64 0, .int .i64 0, .int .i64 0] 23)
    rw [show (w.alloc (Obj.cells #[.string nm, .string nd, .int .i64 ev, .int .i64 vol, .int .i64 tot] 23)).heap.size = w.heap.size + 1 by simp] at h
    exact h
  have BZ : Hid (Blk (((w.alloc (Obj.cells #[.string nm, .string nd, .int .i64 ev, .int .i64 vol, .int .i64 tot] 23)).alloc (Obj.cells #[.string qm, .string qd, .int .i64 ev', .int .i64 vol', .int .i64 tot'] 23)).alloc (Obj.cells #[.string ⟨#[]⟩, .string ⟨#[]⟩, .int .i64 0, .int .i64 0, .int .i64 0] 23)) (w.heap.size + 1 + 1) 23 #[.string ⟨#[]⟩, .string ⟨#[]⟩, .int .i64 0, .int .i64 0, .int .i64 0]) := by
    have h := Blk.new ((w.alloc (Obj.cells #[.string nm, .string nd, .int .i64 ev, .int .i64 vol, .int .i64 tot] 23)).alloc (Obj.cells #[.string qm, .string qd, .int .i64 ev', .int .i64 vol', .int .i64 tot'] 23)) 23 #[.string ⟨#[]⟩, .string ⟨#[]⟩, .int .i64 0, .int .i64 0, .int .i64 0]
    rw [show ((w.alloc (Obj.cells #[.string nm, .string nd, .int .i64 ev, .int .i64 vol, .int .i64 tot] 23)).alloc (Obj.cells #[.string qm, .string qd, .int .i64 ev', .int .i64 vol', .int .i64 tot'] 23)).heap.size = w.heap.size + 1 + 1 by simp] at h
    exact h
  have BW : Hid (Below w.heap.size w (((w.alloc (Obj.cells #[.string nm, .string nd, .int .i64 ev, .int .i64 vol, .int .i64 tot] 23)).alloc (Obj.cells #[.string qm, .string qd, .int .i64 ev', .int .i64 vol', .int .i64 tot'] 23)).alloc (Obj.cells #[.string ⟨#[]⟩, .string ⟨#[]⟩, .int .i64 0, .int .i64 0, .int .i64 0] 23))) := by show Below _ _ _; (repeat' (first | assumption | exact Below.refl _ _ | exact Below.size (by assumption) | (refine Below.setCell ?_ ?_ _) | (refine Below.alloc ?_ ?_ _) | (refine Below.drew ?_) | (refine below_drewN ?_ _) | (refine Below.trans ?_ (Below.mono ‹Below _ _ _› ?_)) | omega | (simp; done) | (simp; omega) | (simp at *; omega)))
  generalize validB nm nd ev vol tot = v1 at S1 hR
  generalize validB qm qd ev' vol' tot' = v2 at S2 hR
  cases v1 with
  | false =>
    rw [if_neg (by simp)] at hR
    have HRr := hR
    clear hR hn1 hn2 hn3 hn4
    go_enter Tryd.func23, Tryd.ntmps23
    go_wp2_with (first
      | (go_at_call 18
         with_reducible refine (S1.out _).mono ?_
         rintro e w1 ⟨rfl, hb1⟩
         have BA1 := Lib.hid (BA.out.call hb1)
         have BB1 := Lib.hid (BB.out.call hb1)
         have BZ1 := Lib.hid (BZ.out.call hb1)
         have BW1 := Lib.hid (below_step BW.out hb1)
         obtain ⟨a0, a1, a2, a3, a4⟩ := perm_cells BA1.out
         obtain ⟨b0, b1, b2, b3, b4⟩ := perm_cells BB1.out
         obtain ⟨z0, z1, z2, z3, z4⟩ := perm_cells BZ1.out
         obtain ⟨f0, f1, f2, f3, f4⟩ := frozen5 BZ1.out
         have l1 := BZ1.out.lt
         clear hb1))
    have HE := merge_end (w := w) (a := .string ⟨#[]⟩) (b := .string ⟨#[]⟩) (c := .int .i64 0) (d := .int .i64 0) (e := .int .i64 0) BZ1.out rfl BW1.out
    obtain ⟨HE1, he2⟩ := HE
    have HE2 := Lib.hid he2
    generalize (((((w1.setCell ⟨w.heap.size + 1 + 1, 0, none⟩ (.string ⟨#[]⟩)).setCell ⟨w.heap.size + 1 + 1, 1, none⟩ (.string ⟨#[]⟩)).setCell ⟨w.heap.size + 1 + 1, 2, none⟩ (.int .i64 0)).setCell ⟨w.heap.size + 1 + 1, 3, none⟩ (.int .i64 0)).setCell ⟨w.heap.size + 1 + 1, 4, none⟩ (.int .i64 0)) = wq at HE1 he2 HE2 ⊢
    obtain ⟨s0, s1, s2, s3, s4⟩ := perm_cells HE1
    refine bodyPost_ret (v := .tuple #[.agg #[.string ⟨#[]⟩, .string ⟨#[]⟩, .int .i64 0, .int .i64 0, .int .i64 0], .int .i64 1]) (by simp [results, Tryd.results23, go_sem, s0, s1, s2, s3, s4]) rfl ⟨by simp [*, zeroPm], HE2.out⟩
  | true =>
    cases v2 with
    | false =>
      rw [if_neg (by simp)] at hR
      have HRr := hR
      clear hR hn1 hn2 hn3 hn4
      go_enter Tryd.func23, Tryd.ntmps23
      go_wp2_with (first
        | (go_at_call 18
           with_reducible refine (S1.out _).mono ?_
           rintro e w1 ⟨rfl, hb1⟩
           have BA1 := Lib.hid (BA.out.call hb1)
           have BB1 := Lib.hid (BB.out.call hb1)
           have BZ1 := Lib.hid (BZ.out.call hb1)
           have BW1 := Lib.hid (below_step BW.out hb1)
           obtain ⟨a0, a1, a2, a3, a4⟩ := perm_cells BA1.out
           obtain ⟨b0, b1, b2, b3, b4⟩ := perm_cells BB1.out
           obtain ⟨z0, z1, z2, z3, z4⟩ := perm_cells BZ1.out
           obtain ⟨f0, f1, f2, f3, f4⟩ := frozen5 BZ1.out
           have l1 := BZ1.out.lt
           clear hb1)
        | (go_at_call 18
           with_reducible refine (S2.out _).mono ?_
           rintro e w2 ⟨rfl, hb2⟩
           have BA2 := Lib.hid (BA1.out.call hb2)
           have BB2 := Lib.hid (BB1.out.call hb2)
           have BZ2 := Lib.hid (BZ1.out.call hb2)
           have BW2 := Lib.hid (below_step BW1.out hb2)
           obtain ⟨a0, a1, a2, a3, a4⟩ := perm_cells BA2.out
           obtain ⟨b0, b1, b2, b3, b4⟩ := perm_cells BB2.out
           obtain ⟨z0, z1, z2, z3, z4⟩ := perm_cells BZ2.out
           obtain ⟨f0, f1, f2, f3, f4⟩ := frozen5 BZ2.out
           have l2 := BZ2.out.lt
           clear hb2))
      have HE := merge_end (w := w) (a := .string ⟨#[]⟩) (b := .string ⟨#[]⟩) (c := .int .i64 0) (d := .int .i64 0) (e := .int .i64 0) BZ2.out rfl BW2.out
      obtain ⟨HE1, he2⟩ := HE
      have HE2 := Lib.hid he2
      generalize (((((w2.setCell ⟨w.heap.size + 1 + 1, 0, none⟩ (.string ⟨#[]⟩)).setCell ⟨w.heap.size + 1 + 1, 1, none⟩ (.string ⟨#[]⟩)).setCell ⟨w.heap.size + 1 + 1, 2, none⟩ (.int .i64 0)).setCell ⟨w.heap.size + 1 + 1, 3, none⟩ (.int .i64 0)).setCell ⟨w.heap.size + 1 + 1, 4, none⟩ (.int .i64 0)) = wq at HE1 he2 HE2 ⊢
      obtain ⟨s0, s1, s2, s3, s4⟩ := perm_cells HE1
      refine bodyPost_ret (v := .tuple #[.agg #[.string ⟨#[]⟩, .string ⟨#[]⟩, .int .i64 0, .int .i64 0, .int .i64 0], .int .i64 1]) (by simp [results, Tryd.results23, go_sem, s0, s1, s2, s3, s4]) rfl ⟨by simp [*, zeroPm], HE2.out⟩
    | true =>
      rw [if_pos ⟨rfl, rfl⟩] at hR
      by_cases hd : nd = qd
      · rw [if_pos hd] at hR
        subst hd
        have HRr := hR
        clear hR hn1 hn2 hn3 hn4
        go_enter Tryd.func23, Tryd.ntmps23
        go_wp2_with (first
          | (go_at_call 18
             with_reducible refine (S1.out _).mono ?_
             rintro e w1 ⟨rfl, hb1⟩
             have BA1 := Lib.hid (BA.out.call hb1)
             have BB1 := Lib.hid (BB.out.call hb1)
             have BZ1 := Lib.hid (BZ.out.call hb1)
             have BW1 := Lib.hid (below_step BW.out hb1)
             obtain ⟨a0, a1, a2, a3, a4⟩ := perm_cells BA1.out
             obtain ⟨b0, b1, b2, b3, b4⟩ := perm_cells BB1.out
             obtain ⟨z0, z1, z2, z3, z4⟩ := perm_cells BZ1.out
             obtain ⟨f0, f1, f2, f3, f4⟩ := frozen5 BZ1.out
             have l1 := BZ1.out.lt
             clear hb1)
          | (go_at_call 18
             with_reducible refine (S2.out _).mono ?_
             rintro e w2 ⟨rfl, hb2⟩
             have BA2 := Lib.hid (BA1.out.call hb2)
             have BB2 := Lib.hid (BB1.out.call hb2)
             have BZ2 := Lib.hid (BZ1.out.call hb2)
             have BW2 := Lib.hid (below_step BW1.out hb2)
             obtain ⟨a0, a1, a2, a3, a4⟩ := perm_cells BA2.out
             obtain ⟨b0, b1, b2, b3, b4⟩ := perm_cells BB2.out
             obtain ⟨z0, z1, z2, z3, z4⟩ := perm_cells BZ2.out
             obtain ⟨f0, f1, f2, f3, f4⟩ := frozen5 BZ2.out
             have l2 := BZ2.out.lt
             clear hb2))
        have HE := merge_end (w := w) (a := .string nm) (b := .string nd) (c := .int .i64 (min ev ev')) (d := .int .i64 (min vol vol')) (e := .int .i64 (min tot tot')) BZ2.out rfl BW2.out
        obtain ⟨HE1, he2⟩ := HE
        have HE2 := Lib.hid he2
        generalize (((((w2.setCell ⟨w.heap.size + 1 + 1, 0, none⟩ (.string nm)).setCell ⟨w.heap.size + 1 + 1, 1, none⟩ (.string nd)).setCell ⟨w.heap.size + 1 + 1, 2, none⟩ (.int .i64 (min ev ev'))).setCell ⟨w.heap.size + 1 + 1, 3, none⟩ (.int .i64 (min vol vol'))).setCell ⟨w.heap.size + 1 + 1, 4, none⟩ (.int .i64 (min tot tot'))) = wq at HE1 he2 HE2 ⊢
        obtain ⟨s0, s1, s2, s3, s4⟩ := perm_cells HE1
        refine bodyPost_ret (v := .tuple #[.agg #[.string nm, .string nd, .int .i64 (min ev ev'), .int .i64 (min vol vol'), .int .i64 (min tot tot')], .int .i64 0]) (by simp [results, Tryd.results23, go_sem, s0, s1, s2, s3, s4]) rfl ⟨by simp [*, zeroPm], HE2.out⟩
      · rw [if_neg hd] at hR
        have u1 : ¬ nd.toList = qd.toList := fun h => hd (bytes_ext39 h)
        have u2 : decide (nd.toList = qd.toList) = false := decide_eq_false u1
        have u3 : (nd.toList == qd.toList) = false := by simp [u1]
        have HRr := hR
        clear hd
        clear hR hn1 hn2 hn3 hn4
        go_enter Tryd.func23, Tryd.ntmps23
        go_wp2_with (first
          | (go_at_call 18
             with_reducible refine (S1.out _).mono ?_
             rintro e w1 ⟨rfl, hb1⟩
             have BA1 := Lib.hid (BA.out.call hb1)
             have BB1 := Lib.hid (BB.out.call hb1)
             have BZ1 := Lib.hid (BZ.out.call hb1)
             have BW1 := Lib.hid (below_step BW.out hb1)
             obtain ⟨a0, a1, a2, a3, a4⟩ := perm_cells BA1.out
             obtain ⟨b0, b1, b2, b3, b4⟩ := perm_cells BB1.out
             obtain ⟨z0, z1, z2, z3, z4⟩ := perm_cells BZ1.out
             obtain ⟨f0, f1, f2, f3, f4⟩ := frozen5 BZ1.out
             have l1 := BZ1.out.lt
             clear hb1)
          | (go_at_call 18
             with_reducible refine (S2.out _).mono ?_
             rintro e w2 ⟨rfl, hb2⟩
             have BA2 := Lib.hid (BA1.out.call hb2)
             have BB2 := Lib.hid (BB1.out.call hb2)
             have BZ2 := Lib.hid (BZ1.out.call hb2)
             have BW2 := Lib.hid (below_step BW1.out hb2)
             obtain ⟨a0, a1, a2, a3, a4⟩ := perm_cells BA2.out
             obtain ⟨b0, b1, b2, b3, b4⟩ := perm_cells BB2.out
             obtain ⟨z0, z1, z2, z3, z4⟩ := perm_cells BZ2.out
             obtain ⟨f0, f1, f2, f3, f4⟩ := frozen5 BZ2.out
             have l2 := BZ2.out.lt
             clear hb2))
        have HE := merge_end (w := w) (a := .string ⟨#[]⟩) (b := .string ⟨#[]⟩) (c := .int .i64 0) (d := .int .i64 0) (e := .int .i64 0) BZ2.out rfl BW2.out
        obtain ⟨HE1, he2⟩ := HE
        have HE2 := Lib.hid he2
        generalize (((((w2.setCell ⟨w.heap.size + 1 + 1, 0, none⟩ (.string ⟨#[]⟩)).setCell ⟨w.heap.size + 1 + 1, 1, none⟩ (.string ⟨#[]⟩)).setCell ⟨w.heap.size + 1 + 1, 2, none⟩ (.int .i64 0)).setCell ⟨w.heap.size + 1 + 1, 3, none⟩ (.int .i64 0)).setCell ⟨w.heap.size + 1 + 1, 4, none⟩ (.int .i64 0)) = wq at HE1 he2 HE2 ⊢
        obtain ⟨s0, s1, s2, s3, s4⟩ := perm_cells HE1
        refine bodyPost_ret (v := .tuple #[.agg #[.string ⟨#[]⟩, .string ⟨#[]⟩, .int .i64 0, .int .i64 0, .int .i64 0], .int .i64 25]) (by simp [results, Tryd.results23, go_sem, s0, s1, s2, s3, s4]) rfl ⟨by simp [*, zeroPm], HE2.out⟩
end Go.Proofs.YtgbnbafigjijmaaDoor

/- The reference's finding and First. -/
import Derived.Test.YtgbnbafigjijmaaDoorRYs
import Derived.Test.YtgbnbafigjijmaaDoorFst
import Derived.Test.YtgbnbafigjijmaaDoorFnd
import Derived.Test.YtgbnbafigjijmaaDoorFmt
namespace Go.Proofs.YtgbnbafigjijmaaDoor
open Go.RowKit
set_option linter.unusedVariables false
set_option linter.unusedSimpArgs false

theorem fnd_cells {w : World} {g : Nat} {t : TypeId} {a b : Value} (h : Blk w g t #[a, b]) : w.cell? ⟨g, 0, none⟩ = some a ∧ w.cell? ⟨g, 1, none⟩ = some b := ⟨h.cell 0, h.cell 1⟩
theorem fnd_end {w wx : World} {a b : Value} {cs : Array Value} (h : Blk wx w.heap.size 40 cs) (hb : Below w.heap.size w wx) (hc : cs.size = 2) :
    Blk ((wx.setCell ⟨w.heap.size, 0, none⟩ a).setCell ⟨w.heap.size, 1, none⟩ b) w.heap.size 40 #[a, b] ∧ Below w.heap.size w ((wx.setCell ⟨w.heap.size, 0, none⟩ a).setCell ⟨w.heap.size, 1, none⟩ b) := by
  obtain ⟨l⟩ := cs
  match l, hc with
  | [x, y], _ => exact ⟨(h.set_ 0 _).set_ 1 _, (hb.setCell (p := ⟨w.heap.size, 0, none⟩) (Nat.le_refl _) _).setCell (p := ⟨w.heap.size, 1, none⟩) (Nat.le_refl _) _⟩
set_option maxRecDepth 100000 in
theorem rfinding (kind n : Int) (h1 : -9223372036854775808 < n) (h2 : n < 9223372036854775808) (w : World) : Calls Tryd.prog 41 #[.int .i64 kind, .int .i64 n] w fun e w' => e = .returned (.agg #[.int .i64 kind, .string (fnm n)]) ∧ Below w.heap.size w w' := by
  have SF := Lib.hid fun w => rformat n h1 h2 w
  have B0 : Hid (Blk (w.alloc (Obj.cells #[.int .i64 0, .string ⟨#[]⟩] 40)) w.heap.size 40 #[.int .i64 0, .string ⟨#[]⟩]) := Blk.new _ _ _
  have W0 : Hid (Below w.heap.size w (w.alloc (Obj.cells #[.int .i64 0, .string ⟨#[]⟩] 40))) := by show Below _ _ _; (repeat' (first | assumption | exact Below.refl _ _ | exact Below.size (by assumption) | (refine Below.setCell ?_ ?_ _) | (refine Below.alloc ?_ ?_ _) | (refine Below.drew ?_) | (refine below_drewN ?_ _) | (refine Below.trans ?_ (Below.mono ‹Below _ _ _› ?_)) | omega | (simp; done) | (simp; omega) | (simp at *; omega)))
  unfold fnm
  generalize (⟨(Lib.itoa n).toArray⟩ : ByteArray) = s at SF ⊢
  clear h1 h2
  go_enter Tryd.func41, Tryd.ntmps41
  go_wp2_with (first
    | (go_at_call 64
       with_reducible refine (SF.out _).mono ?_
       rintro e w1 ⟨rfl, hb1⟩
       have B1 := Lib.hid (B0.out.call hb1)
       have W1 := Lib.hid (below_step W0.out hb1)
       obtain ⟨z0, z1⟩ := fnd_cells B1.out
       have f0 := B1.out.frozen 0
       have f1 := B1.out.frozen 1
       have l1 := B1.out.lt
       clear hb1))
  obtain ⟨HE1, he2⟩ := fnd_end (w := w) (a := .int .i64 kind) (b := .string s) B1.out W1.out rfl
  have HE2 := Lib.hid he2
  generalize ((w1.setCell ⟨w.heap.size, 0, none⟩ (.int .i64 kind)).setCell ⟨w.heap.size, 1, none⟩ (.string s)) = wq at HE1 he2 HE2 ⊢
  obtain ⟨s0, s1⟩ := fnd_cells HE1
  refine bodyPost_ret (v := .agg #[.int .i64 kind, .string s]) (by simp [results, Tryd.results41, go_sem, s0, s1]) rfl ⟨rfl, HE2.out⟩
set_option maxRecDepth 100000 in
theorem rfirst_bad (nm nd : ByteArray) (ev vol tot : Int) (hn1 : nm.size ≤ maxLen) (hn2 : nd.size ≤ maxLen) (A : Option Addr) (n c : Nat) (E : Evs) (from_ sec : Int) (h40 : n ≤ 40) (w : World) (hT : EvIn w A n E)
    (er1 : Int) (he1 : er1 = yErr (validB nm nd ev vol tot = true) E n from_ sec) (hE : ¬ er1 = 0) :
    Calls Tryd.prog 17 #[.agg #[.string nm, .string nd, .int .i64 ev, .int .i64 vol, .int .i64 tot], .slice A n c, .int .i64 from_, .int .i64 sec] w fun e w' => e = .returned (.tuple #[.int .i64 0, .int .i64 er1]) ∧ Below w.heap.size w w' := by
  have SY := Lib.hid fun w hT => ryears nm nd ev vol tot hn1 hn2 A n c E from_ sec h40 w hT
  have HW0 : Hid (Below w.heap.size w (w.alloc (Obj.cells #[.string nm, .string nd, .int .i64 ev, .int .i64 vol, .int .i64 tot] 23))) := by show Below _ _ _; (repeat' (first | assumption | exact Below.refl _ _ | exact Below.size (by assumption) | (refine Below.setCell ?_ ?_ _) | (refine Below.alloc ?_ ?_ _) | (refine Below.drew ?_) | (refine below_drewN ?_ _) | (refine Below.trans ?_ (Below.mono ‹Below _ _ _› ?_)) | omega | (simp; done) | (simp; omega) | (simp at *; omega)))
  have HTA : Hid (EvIn (w.alloc (Obj.cells #[.string nm, .string nd, .int .i64 ev, .int .i64 vol, .int .i64 tot] 23)) A n E) := hT.below (Nat.le_refl _) HW0.out
  have HE := Lib.hid he1
  have u1 : (er1 == 0) = false := by simp [hE]
  clear he1 hE hT h40 hn1 hn2
  go_enter Tryd.func17, Tryd.ntmps17
  go_wp2_with (first
    | (go_at_call 40
       with_reducible refine (SY.out _ HTA.out).mono ?_
       rintro e w1 ⟨A1, N1, cap1, er, rfl, her, hI, hb1⟩
       obtain rfl : er1 = er := HE.out.trans her.symm
       have HW1 := Lib.hid (below_step HW0.out hb1)
       clear hI hb1 her))
  go_ret2
  exact ⟨rfl, HW1.out⟩
set_option maxRecDepth 100000 in
set_option maxHeartbeats 4000000 in
theorem rfirst_at (nm nd : ByteArray) (ev vol tot : Int) (hn1 : nm.size ≤ maxLen) (hn2 : nd.size ≤ maxLen) (A : Option Addr) (n c : Nat) (E : Evs) (from_ sec : Int) (h40 : n ≤ 40) (w : World) (hT : EvIn w A n E)
    (hE : yErr (validB nm nd ev vol tot = true) E n from_ sec = 0) (k er2 : Int)
    (hK : (∃ K : Nat, K < n ∧ brk (yrs E from_ sec) E.Tot ev vol tot K = true ∧ (∀ j, j < K → brk (yrs E from_ sec) E.Tot ev vol tot j = false) ∧ k = K ∧ er2 = 0) ∨ ((∀ j, j < n → brk (yrs E from_ sec) E.Tot ev vol tot j = false) ∧ k = 0 ∧ er2 = 12)) :
    Calls Tryd.prog 17 #[.agg #[.string nm, .string nd, .int .i64 ev, .int .i64 vol, .int .i64 tot], .slice A n c, .int .i64 from_, .int .i64 sec] w fun e w' => e = .returned (.tuple #[.int .i64 k, .int .i64 er2]) ∧ Below w.heap.size w w' := by
  have HT := Lib.hid hT
  have H40 := Lib.hid h40
  have SY := Lib.hid fun w hT => ryears nm nd ev vol tot hn1 hn2 A n c E from_ sec h40 w hT
  have HP0 := Lib.hid (perm_blk w nm nd ev vol tot)
  have HW0 : Hid (Below w.heap.size w (w.alloc (Obj.cells #[.string nm, .string nd, .int .i64 ev, .int .i64 vol, .int .i64 tot] 23))) := by show Below _ _ _; (repeat' (first | assumption | exact Below.refl _ _ | exact Below.size (by assumption) | (refine Below.setCell ?_ ?_ _) | (refine Below.alloc ?_ ?_ _) | (refine Below.drew ?_) | (refine below_drewN ?_ _) | (refine Below.trans ?_ (Below.mono ‹Below _ _ _› ?_)) | omega | (simp; done) | (simp; omega) | (simp at *; omega)))
  have HTA : Hid (EvIn (w.alloc (Obj.cells #[.string nm, .string nd, .int .i64 ev, .int .i64 vol, .int .i64 tot] 23)) A n E) := HT.out.below (Nat.le_refl _) HW0.out
  obtain ⟨hok, hrp, hst, hyr⟩ := yErr_zero hE
  have HVL : Hid (limR ev vol tot) := (validB_true.1 hok).2.2
  have HRP := Lib.hid hrp
  have HE := Lib.hid hE
  have HK := Lib.hid hK
  clear hE hok hrp hst hyr hT h40 hn1 hn2 hK
  go_enter Tryd.func17, Tryd.ntmps17
  go_wp2_with (first
    | (go_at_call 40
       with_reducible refine (SY.out _ HTA.out).mono ?_
       rintro e w1 ⟨A1, N1, cap1, er, rfl, her, hI, hb1⟩
       obtain rfl : 0 = er := HE.out.symm.trans her.symm
       obtain ⟨hN, hJ⟩ := hI rfl
       clear hI
       obtain rfl := hN.symm
       have HI1 := Lib.hid hJ
       have HW1 := Lib.hid (below_step HW0.out hb1)
       have HP1 := Lib.hid (HP0.out.call hb1)
       clear hJ hb1 her hN))
  have HT1 := Lib.hid (HT.out.below (Nat.le_refl _) HW1.out)
  go_loopw [12] (fun v wr => ∃ i : Nat, Hid (i ≤ n) ∧ Hid (∀ j, j < i → brk (yrs E from_ sec) E.Tot ev vol tot j = false) ∧ v = .int .i64 i ∧ Hid (Below w1.heap.size w1 wr)) (fun v _ => n - (intOf v).toNat)
  case atStart => exact ⟨0, Nat.zero_le _, fun j hj => absurd hj (Nat.not_lt_zero _), rfl, Below.refl _ _⟩
  case round =>
    obtain ⟨i, Hi, HB, rfl, HM⟩ := hrel
    by_cases hlt : i < n
    · have T0 : decide ((i : Int) < (n : Int)) = true := by simp <;> omega
      have T0' : decide (i < n) = true := decide_eq_true hlt
      obtain ⟨i', hi'⟩ : ∃ z, z = i + 1 := ⟨_, rfl⟩
      have x0 : IntKind.i64.wrap ((i : Int) + 1) = (i' : Int) := by have := H40.out; rw [IntKind.wrap_i64]; omega
      have HI' : Hid (i' ≤ n) := by show i' ≤ n; omega
      have HMS : Hid (n - (intOf (Value.int .i64 (i' : Int))).toNat < n - (intOf (Value.int .i64 (i : Int))).toNat) := by show _ < _; simp [intOf]; omega
      have k0 : (0 : Int) ≤ (i : Int) := by omega
      have k1 : (i : Int) < (n : Int) := by omega
      have hTr := HT1.out.below (Nat.le_refl _) HM.out
      have hIr := HI1.out.below (Nat.le_refl _) HM.out
      have HTr := Lib.hid hTr
      have HIr := Lib.hid hIr
      obtain ⟨eb, eoff, rfl, heb, c0, c1, c2, c3⟩ := hTr.at hlt
      obtain ⟨yb, yoff, rfl, hyb, cy⟩ := hIr.at hlt
      have SIY := Lib.hid fun w hT hY => rinyear (some ⟨eb, eoff, none⟩) n c E (some ⟨yb, yoff, none⟩) n cap1 (yrs E from_ sec) i' (yrs E from_ sec i) H40.out HI'.out HRP.out w hT hY rfl
      obtain ⟨p0, p1, p2, p3, p4⟩ := perm_cells (HP1.out.call HM.out)
      obtain ⟨CN, hCN⟩ : ∃ z : Int, z = (cnt (yrs E from_ sec) (yrs E from_ sec i) i' : Int) := ⟨_, rfl⟩
      obtain ⟨SM, hSM⟩ : ∃ z, z = capR (sm (yrs E from_ sec) E.Tot (yrs E from_ sec i) i') := ⟨_, rfl⟩
      rw [← hCN, ← hSM] at SIY
      obtain ⟨b1, hb1⟩ : ∃ z, z = decide (ev < CN) := ⟨_, rfl⟩
      obtain ⟨b2, hb2⟩ : ∃ z, z = decide (tot < SM) := ⟨_, rfl⟩
      obtain ⟨b3, hb3⟩ : ∃ z, z = decide (vol < E.Tot i) := ⟨_, rfl⟩
      have HBRK : Hid (brk (yrs E from_ sec) E.Tot ev vol tot i = (b1 || (b2 || b3))) := by
        show _ = _
        have hlim := HVL.out
        unfold limR at hlim
        have e : (tot < cutS (sm (yrs E from_ sec) E.Tot (yrs E from_ sec i) (i + 1))) = (tot < SM) := propext ((cut_gt hlim.2.2.2.2.2).trans (by rw [hSM, hi']; exact (capR_gt hlim.2.2.2.2.2).symm))
        rw [hb1, hb2, hb3, hCN, hi']
        unfold brk
        simp only [e]
      have t1 := hb1.symm
      have t2 := hb2.symm
      have t3 := hb3.symm
      have HLT := Lib.hid hlt
      have HI1' := Lib.hid hi'
      clear hlt hi' hCN hSM hb1 hb2 hb3 hTr hIr
      go_upto_region 8 with (first
        | (go_at_call 42
           with_reducible refine (SIY.out _ HTr.out HIr.out).mono ?_
           rintro e w' ⟨rfl, rfl⟩))
      by_cases hbb : (b1 || (b2 || b3)) = true
      · cases b1 with
        | true =>
          obtain ⟨rfl, rfl⟩ : (i : Int) = k ∧ 0 = er2 := by
            have hy := HBRK.out.trans hbb
            rcases HK.out with ⟨K, hK, h1, h2, h3, h4⟩ | ⟨h1, _, _⟩
            · have : K = i := by
                rcases Nat.lt_trichotomy K i with g | g | g
                · rw [HB.out K g] at h1; cases h1
                · exact g
                · rw [h2 i g] at hy; cases hy
              exact ⟨by rw [h3, this], h4.symm⟩
            · rw [h1 i HLT.out] at hy; cases hy
          clear hbb
          go_quiet (fail)
          go_wp2_with fail
          go_ret2
          refine ⟨rfl, ?_⟩
          have := below_step HW1.out HM.out
          (repeat' (first | assumption | exact Below.refl _ _ | exact Below.size (by assumption) | (refine Below.setCell ?_ ?_ _) | (refine Below.alloc ?_ ?_ _) | (refine Below.drew ?_) | (refine below_drewN ?_ _) | (refine Below.trans ?_ (Below.mono ‹Below _ _ _› ?_)) | omega | (simp; done) | (simp; omega) | (simp at *; omega)))
        | false =>
          cases b2 with
          | true =>
            obtain ⟨rfl, rfl⟩ : (i : Int) = k ∧ 0 = er2 := by
              have hy := HBRK.out.trans hbb
              rcases HK.out with ⟨K, hK, h1, h2, h3, h4⟩ | ⟨h1, _, _⟩
              · have : K = i := by
                  rcases Nat.lt_trichotomy K i with g | g | g
                  · rw [HB.out K g] at h1; cases h1
                  · exact g
                  · rw [h2 i g] at hy; cases hy
                exact ⟨by rw [h3, this], h4.symm⟩
              · rw [h1 i HLT.out] at hy; cases hy
            clear hbb
            go_quiet (fail)
            go_wp2_with fail
            go_ret2
            refine ⟨rfl, ?_⟩
            have := below_step HW1.out HM.out
            (repeat' (first | assumption | exact Below.refl _ _ | exact Below.size (by assumption) | (refine Below.setCell ?_ ?_ _) | (refine Below.alloc ?_ ?_ _) | (refine Below.drew ?_) | (refine below_drewN ?_ _) | (refine Below.trans ?_ (Below.mono ‹Below _ _ _› ?_)) | omega | (simp; done) | (simp; omega) | (simp at *; omega)))
          | false =>
            cases b3 with
            | true =>
              obtain ⟨rfl, rfl⟩ : (i : Int) = k ∧ 0 = er2 := by
                have hy := HBRK.out.trans hbb
                rcases HK.out with ⟨K, hK, h1, h2, h3, h4⟩ | ⟨h1, _, _⟩
                · have : K = i := by
                    rcases Nat.lt_trichotomy K i with g | g | g
                    · rw [HB.out K g] at h1; cases h1
                    · exact g
                    · rw [h2 i g] at hy; cases hy
                  exact ⟨by rw [h3, this], h4.symm⟩
                · rw [h1 i HLT.out] at hy; cases hy
              clear hbb
              go_quiet (fail)
              go_wp2_with fail
              go_ret2
              refine ⟨rfl, ?_⟩
              have := below_step HW1.out HM.out
              (repeat' (first | assumption | exact Below.refl _ _ | exact Below.size (by assumption) | (refine Below.setCell ?_ ?_ _) | (refine Below.alloc ?_ ?_ _) | (refine Below.drew ?_) | (refine below_drewN ?_ _) | (refine Below.trans ?_ (Below.mono ‹Below _ _ _› ?_)) | omega | (simp; done) | (simp; omega) | (simp at *; omega)))
            | false => simp at hbb
      · have HBN := Lib.hid (HBRK.out.trans (Bool.eq_false_iff.2 hbb))
        have HB' : Hid (∀ j, j < i' → brk (yrs E from_ sec) E.Tot ev vol tot j = false) := by
          show ∀ j, j < i' → _
          intro j hj
          rcases Nat.lt_or_ge j i with g | g
          · exact HB.out j g
          · obtain rfl : j = i := by have := HI1'.out; omega
            exact HBN.out
        obtain rfl : b1 = false := by cases b1 <;> simp_all
        obtain rfl : b2 = false := by cases b2 <;> simp_all
        obtain rfl : b3 = false := by cases b3 <;> simp_all
        clear hbb
        go_quiet (fail)
        go_wp2_with fail
        go_roundw
        case rel => exact ⟨i', HI', HB', rfl, by show Below _ _ _; have := HM.out; (repeat' (first | assumption | exact Below.refl _ _ | exact Below.size (by assumption) | (refine Below.setCell ?_ ?_ _) | (refine Below.alloc ?_ ?_ _) | (refine Below.drew ?_) | (refine below_drewN ?_ _) | (refine Below.trans ?_ (Below.mono ‹Below _ _ _› ?_)) | omega | (simp; done) | (simp; omega) | (simp at *; omega)))⟩
        case measure => exact HMS.out
    · have hin : i = n := by have := Hi.out; omega
      have T0 : decide ((i : Int) < (n : Int)) = false := by simp <;> omega
      have T0' : decide (i < n) = false := decide_eq_false hlt
      obtain ⟨rfl, rfl⟩ : 0 = k ∧ 12 = er2 := by
        rcases HK.out with ⟨K, hK, h1, _, _, _⟩ | ⟨_, h1, h2⟩
        · rw [HB.out K (by omega)] at h1; cases h1
        · exact ⟨h1.symm, h2.symm⟩
      clear hlt hin
      go_wp2_with fail
      go_ret2
      exact ⟨rfl, below_step HW1.out HM.out⟩
theorem rfirst (nm nd : ByteArray) (ev vol tot : Int) (hn1 : nm.size ≤ maxLen) (hn2 : nd.size ≤ maxLen) (A : Option Addr) (n c : Nat) (E : Evs) (from_ sec : Int) (h40 : n ≤ 40) (w : World) (hT : EvIn w A n E) (k er : Int) (h : FirstIs (validB nm nd ev vol tot = true) E n from_ sec ev vol tot k er) :
    Calls Tryd.prog 17 #[.agg #[.string nm, .string nd, .int .i64 ev, .int .i64 vol, .int .i64 tot], .slice A n c, .int .i64 from_, .int .i64 sec] w fun e w' => e = .returned (.tuple #[.int .i64 k, .int .i64 er]) ∧ Below w.heap.size w w' := by
  rcases h.out with ⟨h1, h2, rfl⟩ | ⟨h1, h2⟩
  · exact rfirst_bad nm nd ev vol tot hn1 hn2 A n c E from_ sec h40 w hT er h1.symm h2
  · exact rfirst_at nm nd ev vol tot hn1 hn2 A n c E from_ sec h40 w hT h1 k er h2
end Go.Proofs.YtgbnbafigjijmaaDoor

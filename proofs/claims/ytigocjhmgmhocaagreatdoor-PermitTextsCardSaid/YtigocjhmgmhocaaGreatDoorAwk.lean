/- slices.Equal and slices.Contains of findings; the whole contract of Check; the examples of the chapter. -/
import Derived.Test.YtigocjhmgmhocaaGreatDoorChkA
namespace Go.Proofs.YtigocjhmgmhocaaGreatDoor
open Go.RowKit Go.Maps
set_option linter.unusedVariables false
set_option linter.unusedSimpArgs false

theorem below_al {w1 w2 : World} {o : Obj} (h : Below (w1.alloc o).heap.size (w1.alloc o) w2) : Below w1.heap.size w1 w2 :=
  ((Below.refl _ w1).alloc (Nat.le_refl _) o).trans (h.mono (by simp))
set_option maxRecDepth 100000 in
set_option maxHeartbeats 4000000 in
theorem fequal (A B : Option Addr) (N c d : Nat) (L : List (Int × Int)) (w : World) (hN : N = L.length) (hA : FndIn w A L) (hB : FndIn w B L) :
    Calls Tryz.prog 18 #[.slice A N c, .slice B N d] w fun e w' => e = .returned (.bool true) ∧ Below w.heap.size w w' := by
  have HA := Lib.hid hA
  have HB := Lib.hid hB
  have HN := Lib.hid hN
  have HNB : Hid (N ≤ 9223372036854775807) := by show N ≤ _; have := hA.1; omega
  clear hN hA hB
  go_enter Tryz.func18, Tryz.ntmps18
  go_wp2_with fail
  go_loopw [13] (fun v wr => ∃ i : Nat, Hid (i ≤ N) ∧ v = .int .i64 i ∧ Hid (Below w.heap.size w wr)) (fun v _ => N - (RowKit.intOf v).toNat)
  case atStart => exact ⟨0, Nat.zero_le _, rfl, Below.refl _ _⟩
  case round =>
    obtain ⟨i, Hi, rfl, HW⟩ := hrel
    by_cases hlt : i < N
    · have T0 : decide ((i : Int) < (N : Int)) = true := by simp <;> omega
      obtain ⟨i', hi'⟩ : ∃ z, z = i + 1 := ⟨_, rfl⟩
      have x0 : IntKind.i64.wrap ((i : Int) + 1) = (i' : Int) := by have := HNB.out; rw [IntKind.wrap_i64]; omega
      have HI' : Hid (i' ≤ N) := by show i' ≤ N; omega
      have HMS : Hid (N - (RowKit.intOf (Value.int .i64 (i' : Int))).toNat < N - (RowKit.intOf (Value.int .i64 (i : Int))).toNat) := by show _ < _; simp [RowKit.intOf]; omega
      have k0 : (0 : Int) ≤ (i : Int) := by omega
      have k1 : (i : Int) < (N : Int) := by omega
      obtain ⟨ba, oa, rfl, hba, a0, a1⟩ := (HA.out.below (Nat.le_refl _) HW.out).at (k := i) (by have := HN.out; omega)
      obtain ⟨bb, ob, rfl, hbb, b0, b1⟩ := (HB.out.below (Nat.le_refl _) HW.out).at (k := i) (by have := HN.out; omega)
      clear hi' hlt
      go_wp2_with fail
      go_quiet (fail)
      go_wp2_with fail
      go_roundw
      case rel => exact ⟨i', HI', rfl, by have := HW.out; (repeat' (first | assumption | exact Below.refl _ _ | exact Below.size (by assumption) | (refine Below.setCell ?_ ?_ _) | (refine Below.alloc ?_ ?_ _) | (refine Below.drew ?_) | (refine below_drewN ?_ _) | (refine Below.trans ?_ (Below.mono ‹Below _ _ _› ?_)) | omega | (simp; done) | (simp; omega) | (simp at *; omega)))⟩
      case measure => exact HMS.out
    · have hin : i = N := by have := Hi.out; omega
      have T0 : decide ((i : Int) < (N : Int)) = false := by simp <;> omega
      have T0' : decide (i < N) = false := decide_eq_false hlt
      clear hlt hin
      go_wp2_with fail
      go_ret
      exact ⟨rfl, HW.out⟩
/-- A finding with a name stands in a list. -/
def hasN (L : List (Int × Int)) (k : Int) (s : ByteArray) : Bool := L.any fun y => decide (y.1 = k) && decide (fnm y.2 = s)
theorem hasN_at {L : List (Int × Int)} {k : Int} {s : ByteArray} : hasN L k s = true ↔ ∃ i, i < L.length ∧ fK L i = k ∧ fnm (fV L i) = s := by
  unfold hasN
  rw [List.any_eq_true]
  constructor
  · rintro ⟨y, hy, h⟩
    simp only [Bool.and_eq_true, decide_eq_true_eq] at h
    obtain ⟨i, hi, e⟩ := List.getElem_of_mem hy
    refine ⟨i, hi, ?_, ?_⟩
    · unfold fK; simp [List.getD, hi, e, h.1]
    · unfold fV; simp [List.getD, hi, e, h.2]
  · rintro ⟨i, hi, h1, h2⟩
    refine ⟨L[i], List.getElem_mem _, ?_⟩
    unfold fK at h1
    unfold fV at h2
    simp only [List.getD, hi, List.getElem?_eq_getElem, Option.getD_some] at h1 h2
    simp [h1, h2]
/-- What Check finds. -/
noncomputable def chkL (ok : Prop) (E : Evs) (n : Nat) (from_ sec ev vol tot : Int) : List (Int × Int) :=
  if yErr ok E n from_ sec = 0 then finds (yrs E from_ sec) E.Tot n ev vol tot else []
def ChkPost (w : World) (ok : Prop) (E : Evs) (n : Nat) (from_ sec ev vol tot er : Int) (e : Ending) (w' : World) : Prop := ∃ (A' : Option Addr) (N cap : Nat), e = .returned (.tuple #[.slice A' N cap, .int .i64 er]) ∧ N = (chkL ok E n from_ sec ev vol tot).length ∧ FndIn w' A' (chkL ok E n from_ sec ev vol tot) ∧ Below w.heap.size w w'
set_option maxRecDepth 100000 in
theorem tcheck (nm nd : ByteArray) (ev vol tot : Int) (hn1 : nm.size ≤ maxLen) (hn2 : nd.size ≤ maxLen) (A : Option Addr) (n c : Nat) (E : Evs) (from_ sec : Int) (h40 : n ≤ 40) (w : World) (hE9 : Env w) (hT : EvIn w A n E)
    (er1 : Int) (he1 : er1 = yErr (validB nm nd ev vol tot = true) E n from_ sec) :
    Calls Tryz.prog 17 #[.agg #[.string nm, .string nd, .int .i64 ev, .int .i64 vol, .int .i64 tot], .slice A n c, .int .i64 from_, .int .i64 sec] w (ChkPost w (validB nm nd ev vol tot = true) E n from_ sec ev vol tot er1) := by
  by_cases hE : er1 = 0
  · refine (tcheck_at nm nd ev vol tot hn1 hn2 A n c E from_ sec h40 w hE9 hT (he1.symm.trans hE)).mono ?_
    rintro e w' ⟨A', N, cap, rfl, h1, h2, h3⟩
    have hc : chkL (validB nm nd ev vol tot = true) E n from_ sec ev vol tot = finds (yrs E from_ sec) E.Tot n ev vol tot := by unfold chkL; rw [if_pos (he1.symm.trans hE)]
    exact ⟨A', N, cap, by rw [hE], by rw [hc]; exact h1, by rw [hc]; exact h2, h3⟩
  · have hc : chkL (validB nm nd ev vol tot = true) E n from_ sec ev vol tot = [] := by unfold chkL; rw [if_neg (by rw [← he1]; exact hE)]
    have HC := Lib.hid hc
    have SY := Lib.hid fun w hT => tyears nm nd ev vol tot hn1 hn2 A n c E from_ sec h40 w hT
    have HW0 : Hid (Below w.heap.size w (w.alloc (Obj.cells #[.string nm, .string nd, .int .i64 ev, .int .i64 vol, .int .i64 tot] 26))) := by show Below _ _ _; (repeat' (first | assumption | exact Below.refl _ _ | exact Below.size (by assumption) | (refine Below.setCell ?_ ?_ _) | (refine Below.alloc ?_ ?_ _) | (refine Below.drew ?_) | (refine below_drewN ?_ _) | (refine Below.trans ?_ (Below.mono ‹Below _ _ _› ?_)) | omega | (simp; done) | (simp; omega) | (simp at *; omega)))
    have HTA : Hid (EvIn (w.alloc (Obj.cells #[.string nm, .string nd, .int .i64 ev, .int .i64 vol, .int .i64 tot] 26)) A n E) := hT.below (Nat.le_refl _) HW0.out
    have HE := Lib.hid he1
    have n1 : (er1 == 0) = false := by simp [hE]
    clear he1 hE hT h40 hn1 hn2 hc
    go_enter Tryz.func17, Tryz.ntmps17
    go_wp2_with (first
      | (go_at_call 34
         with_reducible refine (SY.out _ HTA.out).mono ?_
         rintro e w1 ⟨A1, N1, cap1, er, rfl, her, hI, hb1⟩
         obtain rfl : er1 = er := HE.out.trans her.symm
         have HW1 := Lib.hid (below_step HW0.out hb1)
         clear hI hb1 her))
    go_ret2
    exact ⟨none, 0, 0, rfl, by rw [HC.out]; rfl, ⟨by rw [HC.out]; simp, .inl ⟨rfl, HC.out⟩⟩, HW1.out⟩

theorem dec_step {n : Nat} (h : 10 ≤ n) : Lib.decDigits n = Lib.decDigits (n / 10) ++ [UInt8.ofNat (48 + n % 10)] := by rw [Lib.decDigits, dif_neg (by omega)]
theorem fnm_2000 : fnm 2000 = ⟨#[50, 48, 48, 48]⟩ := by
  unfold fnm
  rw [itoa_pos' (by omega), show (2000 : Int).toNat = 2000 from rfl, dec_step (by omega), dec_step (by omega), dec_step (by omega), Lib.decDigits_one (by omega)]
  decide
theorem fnm_1 : fnm 1 = ⟨#[49]⟩ := by
  unfold fnm
  rw [itoa_pos' (by omega), show (1 : Int).toNat = 1 from rfl, Lib.decDigits_one (by omega)]
  decide
def awE : Evs := ⟨fun k => if k = 0 then 0 else 5, fun k => if k = 0 then 1 else 6, fun k => if k = 0 then 300 else 600, fun k => if k = 0 then 300 else 600⟩
theorem two {k : Nat} (h : k < 2) : k = 0 ∨ k = 1 := by omega
theorem aw_right : rightP awE 2 := by
  refine ⟨by omega, fun i hi => ?_⟩
  rcases two hi with rfl | rfl <;> (show evR _ _ _ _ _; decide)
theorem yb_2000 : yb 2000 = 0 := by decide
theorem yb_2001 : yb 2001 = 366 := by decide
theorem aw_time (t : Int) (h0 : 0 ≤ t) (h1 : t < 86400) : TimeIs t 2000 0 := by
  refine .ok (by unfold InstP; omega) ⟨by omega, by omega, ?_, ?_⟩
  · rw [yb_2000]; omega
  · show _ < yb 2001
    rw [yb_2001]; omega
theorem aw_times (i : Nat) (hi : i < 2) : yrs awE 0 60 i = 2000 ∧ ers awE 0 60 i = 0 := by
  refine time_eq (aw_time _ ?_ ?_) <;> (rcases two hi with rfl | rfl <;> decide)
theorem aw_err (ok : Prop) (h : ok) : yErr ok awE 2 0 60 = 0 := by
  rw [yErr_fe ⟨h, aw_right⟩ (by unfold stepP InstP; omega)]
  exact fe_zero.2 fun i hi => (aw_times i hi).2
theorem aw_finds : finds (yrs awE 0 60) awE.Tot 2 1 500 800 = [(1, 2000), (2, 1), (3, 2000)] := by
  have h0 := (aw_times 0 (by omega)).1
  have h1 := (aw_times 1 (by omega)).1
  have hk : keysTo (yrs awE 0 60) 2 = [2000] := by
    have e : keysTo (yrs awE 0 60) 2 = if newAt (yrs awE 0 60) 1 then keysTo (yrs awE 0 60) 1 ++ [yrs awE 0 60 1] else keysTo (yrs awE 0 60) 1 := rfl
    have e1 : keysTo (yrs awE 0 60) 1 = if newAt (yrs awE 0 60) 0 then keysTo (yrs awE 0 60) 0 ++ [yrs awE 0 60 0] else keysTo (yrs awE 0 60) 0 := rfl
    rw [e, if_neg (by unfold newAt; rw [h0, h1]; simp), e1, if_pos (.inl rfl), h0]; rfl
  have hc : cnt (yrs awE 0 60) 2000 2 = 2 := by simp [cnt, h0, h1]
  have hs : sm (yrs awE 0 60) awE.Tot 2000 2 = 900 := by simp [sm, h0, h1]; decide
  have hg : greatL awE.Tot 500 2 = [1] := by decide
  unfold finds
  rw [hk, hg]
  simp [manyL, muchL, hc, hs]
theorem aw_in (w : World) : EvIn (w.alloc (Obj.cells #[.int .i64 0, .int .i64 1, .int .i64 300, .int .i64 300, .int .i64 5, .int .i64 6, .int .i64 600, .int .i64 600] 44)) (some ⟨w.heap.size, 0, none⟩) 2 awE := by
  refine ⟨by omega, .inr ⟨w.heap.size, 0, rfl, by simp, fun k hk => ?_⟩⟩
  rcases two hk with rfl | rfl <;> simp [awE]
theorem aw_fnd (w : World) : FndIn (w.alloc (Obj.cells #[.int .i64 1, .string ⟨#[50, 48, 48, 48]⟩, .int .i64 2, .string ⟨#[49]⟩, .int .i64 3, .string ⟨#[50, 48, 48, 48]⟩] 48)) (some ⟨w.heap.size, 0, none⟩) [(1, 2000), (2, 1), (3, 2000)] := by
  refine ⟨by simp, .inr ⟨w.heap.size, 0, rfl, ⟨by simp, fun k hk => ?_⟩, _, heap_alloc_new w _⟩⟩
  have h3 : k = 0 ∨ k = 1 ∨ k = 2 := by simp at hk; omega
  rcases h3 with rfl | rfl | rfl <;> simp [fK, fV, fnm_2000, fnm_1]
theorem aw_valid : validB ⟨#[112]⟩ ⟨#[110]⟩ 1 500 800 = true := by decide
set_option maxRecDepth 100000 in
set_option maxHeartbeats 2000000 in
theorem caw (w : World) (hE : Env w) : Calls Tryz.prog 5 #[] w fun e w' => e = .returned (.bool true) ∧ Below w.heap.size w w' := by
  have HE := Lib.hid hE
  have e0 : yErr (validB ⟨#[112]⟩ ⟨#[110]⟩ 1 500 800 = true) awE 2 0 60 = 0 := aw_err _ aw_valid
  have eL : chkL (validB ⟨#[112]⟩ ⟨#[110]⟩ 1 500 800 = true) awE 2 0 60 1 500 800 = [(1, 2000), (2, 1), (3, 2000)] := by unfold chkL; rw [if_pos e0, aw_finds]
  have sc := fun (A : Option Addr) c w hE hT => tcheck ⟨#[112]⟩ ⟨#[110]⟩ 1 500 800 (by decide) (by decide) A 2 c awE 0 60 (by omega) w hE hT 0 e0.symm
  have EL := Lib.hid eL
  have SC := Lib.hid sc
  have sv := fun w => tvalid ⟨#[112]⟩ ⟨#[110]⟩ 1 500 800 (by decide) (by decide) w
  rw [aw_valid] at sv
  have SV := Lib.hid sv
  have SE := Lib.hid fun (A B : Option Addr) (c d : Nat) w hA hB => fequal A B 3 c d [(1, 2000), (2, 1), (3, 2000)] w rfl hA hB
  have BP := Lib.hid (Blk.new w 26 #[.string ⟨#[112]⟩, .string ⟨#[110]⟩, .int .i64 1, .int .i64 500, .int .i64 800])
  have B0 : Hid (Below w.heap.size w (w.alloc (Obj.cells #[.string ⟨#[112]⟩, .string ⟨#[110]⟩, .int .i64 1, .int .i64 500, .int .i64 800] 26))) := by show Below _ _ _; (repeat' (first | assumption | exact Below.refl _ _ | exact Below.size (by assumption) | (refine Below.setCell ?_ ?_ _) | (refine Below.alloc ?_ ?_ _) | (refine Below.drew ?_) | (refine below_drewN ?_ _) | (refine Below.trans ?_ (Below.mono ‹Below _ _ _› ?_)) | omega | (simp; done) | (simp; omega) | (simp at *; omega)))
  have B1 : Hid (Below w.heap.size w ((w.alloc (Obj.cells #[.string ⟨#[112]⟩, .string ⟨#[110]⟩, .int .i64 1, .int .i64 500, .int .i64 800] 26)).alloc (Obj.cells #[.int .i64 0, .int .i64 1, .int .i64 300, .int .i64 300, .int .i64 5, .int .i64 6, .int .i64 600, .int .i64 600] 44))) := by show Below _ _ _; have := B0.out; (repeat' (first | assumption | exact Below.refl _ _ | exact Below.size (by assumption) | (refine Below.setCell ?_ ?_ _) | (refine Below.alloc ?_ ?_ _) | (refine Below.drew ?_) | (refine below_drewN ?_ _) | (refine Below.trans ?_ (Below.mono ‹Below _ _ _› ?_)) | omega | (simp; done) | (simp; omega) | (simp at *; omega)))
  have HI := Lib.hid (aw_in (w.alloc (Obj.cells #[.string ⟨#[112]⟩, .string ⟨#[110]⟩, .int .i64 1, .int .i64 500, .int .i64 800] 26)))
  have HI2 : Hid (EvIn ((w.alloc (Obj.cells #[.string ⟨#[112]⟩, .string ⟨#[110]⟩, .int .i64 1, .int .i64 500, .int .i64 800] 26)).alloc (Obj.cells #[.int .i64 0, .int .i64 1, .int .i64 300, .int .i64 300, .int .i64 5, .int .i64 6, .int .i64 600, .int .i64 600] 44)) (some ⟨w.heap.size + 1, 0, none⟩) 2 awE) := by
    have h := HI.out
    rw [show (w.alloc (Obj.cells #[.string ⟨#[112]⟩, .string ⟨#[110]⟩, .int .i64 1, .int .i64 500, .int .i64 800] 26)).heap.size = w.heap.size + 1 by simp] at h
    exact h
  clear hE e0 eL sc sv
  go_enter Tryz.func5, Tryz.ntmps5
  go_wp2_with (first
    | (go_at_call 17
       with_reducible refine (SC.out _ _ _ (HE.out.below B1.out) HI2.out).mono ?_
       rintro e w1 ⟨A1, N1, c1, rfl, hN1, hF1, hb1⟩
       rw [EL.out] at hN1 hF1
       obtain rfl : N1 = 3 := hN1
       have HF1 := Lib.hid hF1
       have HB1 := Lib.hid (below_step B1.out hb1)
       have HP1 := Lib.hid ((BP.out.alloc (Obj.cells #[.int .i64 0, .int .i64 1, .int .i64 300, .int .i64 300, .int .i64 5, .int .i64 6, .int .i64 600, .int .i64 600] 44)).call hb1)
       obtain ⟨p0, p1, p2, p3, p4⟩ := perm_cells HP1.out
       clear hF1 hb1)
    | (go_at_call 18
       with_reducible refine (SE.out _ _ _ _ _ (HF1.out.below (Nat.le_refl _) ((Below.refl _ w1).alloc (Nat.le_refl _) _)) (aw_fnd _)).mono ?_
       rintro e w2 ⟨rfl, hb2⟩
       have HB2 := Lib.hid (below_step HB1.out (w' := w2) (below_al hb2))
       obtain ⟨p0, p1, p2, p3, p4⟩ := perm_cells (HP1.out.call (w' := w2) (below_al hb2))
       clear hb2)
    | (go_at_call 16
       with_reducible refine (SV.out _).mono ?_
       rintro e w3 ⟨rfl, hb3⟩
       have HB3 := Lib.hid (below_step HB2.out hb3)
       clear hb3))
  go_ret
  exact ⟨rfl, HB3.out⟩
end Go.Proofs.YtigocjhmgmhocaaGreatDoor

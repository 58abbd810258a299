/- Overflows of the reference of reports. -/
import Derived.Test.YtfgakaielfekoaaGreatDoorOvp
import Derived.Test.YtfgakaielfekoaaGreatDoorRno
namespace Go.Proofs.YtfgakaielfekoaaGreatDoor
open Go.RowKit
set_option linter.unusedVariables false
set_option linter.unusedSimpArgs false

set_option maxRecDepth 100000 in
set_option maxHeartbeats 16000000 in
theorem rOver (NA LA : Option Addr) (n nc m lc : Nat) (D : Nds) (K : Lks) (hz : NetSz D n K m) (A : Option Addr) (s c : Nat) (S : Sts) (sec : Int) (h20 : s ≤ 20) (h14 : n ≤ 14) (hnm : ∀ i, i < n → (D.Nm i).size ≤ 60) (hs : ∀ k, k < s → S.VN k ≤ 2000 ∧ S.PN k ≤ 2000 ∧ S.SN k ≤ 2000 ∧ S.ON k ≤ 2000) (w : World) (hD : NdIn w NA n D) (hK : LkIn w LA m K) (ht : StIn w A s S) :
    Calls Tryz.prog 28 #[.agg #[.slice NA n nc, .slice LA m lc], .slice A s c, .int .i64 sec] w (LinPost w (OverIs D n K m S s sec)) := by
  have HD := Lib.hid hD
  have HK := Lib.hid hK
  have HT := Lib.hid ht
  have H20 := Lib.hid h20
  have H14 := Lib.hid h14
  have HNM := Lib.hid hnm
  have HSS := Lib.hid hs
  have H0 : Hid (Below w.heap.size w (w.alloc (Obj.cells #[.slice NA n nc, .slice LA m lc] 25))) := (Below.refl _ w).alloc (Nat.le_refl _) _
  have HB0 := Lib.hid (Blk.new w 25 #[.slice NA n nc, .slice LA m lc])
  have ss := fun w hD hK ht v hv => rstates NA LA n nc m lc D K hz A s c S (by omega) hs w hD hK ht v hv
  have t2 : decide ((10000 : Int) < (s : Int)) = false := decide_eq_false (by omega)
  have t2' : decide (10000 < s) = false := decide_eq_false (by omega)
  by_cases g0 : stsP D n K m S s
  case neg =>
    have SS := Lib.hid fun w hD hK ht => ss w hD hK ht 1 ⟨fun h => absurd h g0, fun _ => rfl⟩
    have HR : Hid (OverIs D n K m S s sec [] 1) := .inl ⟨g0, rfl, rfl⟩
    clear ss g0 hz h20 h14 hnm hs hD hK ht
    go_enter Tryz.func28, Tryz.ntmps28
    go_wp2_with (first
      | (go_at_call 69
         with_reducible refine (SS.out _ ?_ ?_ ?_).mono ?_
         focus (exact HD.out.below (Nat.le_refl _) H0.out)
         focus (exact HK.out.below (Nat.le_refl _) H0.out)
         focus (exact HT.out.below (Nat.le_refl _) H0.out)
         rintro e w1 ⟨rfl, hb1⟩
         have H1 := Lib.hid (below_step H0.out hb1)
         have HB1 := Lib.hid (HB0.out.call hb1)
         obtain ⟨d0, d1⟩ := blk2 HB1.out
         clear hb1))
    go_ret2
    exact lin_nil HR.out H1.out
  have SS := Lib.hid fun w hD hK ht => ss w hD hK ht 0 ⟨fun _ => rfl, fun h => absurd g0 h⟩
  by_cases g1 : sec < 1
  case pos =>
    have HR : Hid (OverIs D n K m S s sec [] 2) := .inr (.inl ⟨g0, by omega, rfl, rfl⟩)
    have t1 : decide (sec < 1) = true := decide_eq_true g1
    clear ss g0 g1 hz h20 h14 hnm hs hD hK ht
    go_enter Tryz.func28, Tryz.ntmps28
    go_wp2_with (first
      | (go_at_call 69
         with_reducible refine (SS.out _ ?_ ?_ ?_).mono ?_
         focus (exact HD.out.below (Nat.le_refl _) H0.out)
         focus (exact HK.out.below (Nat.le_refl _) H0.out)
         focus (exact HT.out.below (Nat.le_refl _) H0.out)
         rintro e w1 ⟨rfl, hb1⟩
         have H1 := Lib.hid (below_step H0.out hb1)
         have HB1 := Lib.hid (HB0.out.call hb1)
         obtain ⟨d0, d1⟩ := blk2 HB1.out
         clear hb1))
    go_ret2
    exact lin_nil HR.out H1.out
  have t1 : decide (sec < 1) = false := decide_eq_false g1
  by_cases g2 : 86400 < sec
  case pos =>
    have HR : Hid (OverIs D n K m S s sec [] 2) := .inr (.inl ⟨g0, by omega, rfl, rfl⟩)
    have t3 : decide (86400 < sec) = true := decide_eq_true g2
    clear ss g0 g1 g2 hz h20 h14 hnm hs hD hK ht
    go_enter Tryz.func28, Tryz.ntmps28
    go_wp2_with (first
      | (go_at_call 69
         with_reducible refine (SS.out _ ?_ ?_ ?_).mono ?_
         focus (exact HD.out.below (Nat.le_refl _) H0.out)
         focus (exact HK.out.below (Nat.le_refl _) H0.out)
         focus (exact HT.out.below (Nat.le_refl _) H0.out)
         rintro e w1 ⟨rfl, hb1⟩
         have H1 := Lib.hid (below_step H0.out hb1)
         have HB1 := Lib.hid (HB0.out.call hb1)
         obtain ⟨d0, d1⟩ := blk2 HB1.out
         clear hb1))
    go_ret2
    exact lin_nil HR.out H1.out
  have t3 : decide (86400 < sec) = false := decide_eq_false g2
  have HG := Lib.hid g0
  have HSC : Hid (1 ≤ sec ∧ sec ≤ 86400) := by show 1 ≤ sec ∧ sec ≤ 86400; omega
  obtain ⟨SI0, si0, sz0, sz1, sz2⟩ := info_parts1 infoS
  have SI1 := Lib.hid si0
  have SI2 := Lib.hid sz0
  have SI3 := Lib.hid sz1
  have SI4 := Lib.hid sz2
  clear si0 sz0 sz1 sz2

  clear ss g0 g1 g2 hz h20 h14 hnm hs hD hK ht
  go_enter Tryz.func28, Tryz.ntmps28
  go_wp2_with (first
    | (go_at_call 69
       with_reducible refine (SS.out _ ?_ ?_ ?_).mono ?_
       focus (exact HD.out.below (Nat.le_refl _) H0.out)
       focus (exact HK.out.below (Nat.le_refl _) H0.out)
       focus (exact HT.out.below (Nat.le_refl _) H0.out)
       rintro e w1 ⟨rfl, hb1⟩
       have H1 := Lib.hid (below_step H0.out hb1)
       have HB1 := Lib.hid (HB0.out.call hb1)
       obtain ⟨d0, d1⟩ := blk2 HB1.out
       clear hb1))
  clear d0 d1
  generalize hgw : w.heap.size = gw at HB1
  clear HB0 H0
  go_loopw [9, 10] (fun u v wr => ∃ (i N : Nat) (R : List ByteArray), Hid (i ≤ n) ∧ v = .int .i64 i ∧ Hid (R = oout D S s sec i) ∧ Hid (N = R.length) ∧ Hid (RMem5 w1 wr u N R)) (fun _ v _ => n - (RowKit.intOf v).toNat)
  case atStart => exact ⟨0, 0, [], Nat.zero_le _, rfl, rfl, rfl, World.ownsRow_nil _ _ _ _, Below.refl _ _⟩
  case round =>
    obtain ⟨i, N, R, Hi, rfl, HR, HN, HQ⟩ := hrel
    obtain ⟨A8, cap8, h8⟩ := HQ.out.form
    subst h8
    have HWr : Hid (Below w.heap.size w wr) := below_step H1.out HQ.out.2
    have HN2 : Hid (N ≤ 2000) := by show N ≤ 2000; rw [HN.out, HR.out]; have := oout_len D S s sec i; have := Hi.out; have := H14.out; omega
    have HBr := Lib.hid (HB1.out.call HQ.out.2)
    obtain ⟨d0, d1⟩ := blk2 HBr.out
    by_cases hlt : i < n
    · have T0 : decide ((i : Int) < (n : Int)) = true := by simp <;> omega
      have T0' : decide (i < n) = true := decide_eq_true hlt
      obtain ⟨i', hi'⟩ : ∃ z, z = i + 1 := ⟨_, rfl⟩
      have x0 : IntKind.i64.wrap ((i : Int) + 1) = (i' : Int) := by have := H14.out; rw [IntKind.wrap_i64]; omega
      have HI' : Hid (i' ≤ n) := by show i' ≤ n; omega
      have HMS : Hid (n - (RowKit.intOf (Value.int .i64 (i' : Int))).toNat < n - (RowKit.intOf (Value.int .i64 (i : Int))).toNat) := by show _ < _; simp [RowKit.intOf]; omega
      have k0 : (0 : Int) ≤ (i : Int) := by omega
      have k1 : (i : Int) < (n : Int) := by omega

      have hsz := HNM.out i hlt
      have HSZ := Lib.hid hsz
      have HLT := Lib.hid hlt
      have hpb : ∀ k, k < s → 0 ≤ S.P k i ∧ S.P k i ≤ 1125899906842624 := fun k hk => (HG.out.vol hk hlt).2.1
      have hpo : ∀ k, k < s → i < S.PN k ∧ S.PN k ≤ 2000 ∧ 0 ≤ S.P k i ∧ S.P k i ≤ 1125899906842624 := fun k hk => ⟨(HG.out.vol hk hlt).2.2.2, (HSS.out k hk).2.1, hpb k hk⟩
      have SO : Hid (∀ w, StIn w A s S → Calls Tryz.prog 71 #[.slice A s c, .int .i64 (i : Int)] w (OfPost w (oev S s i))) := fun w ht => rOf A s c S i H20.out hpo w ht
      have HO : Hid (OGood s (oev S s i)) := oev_good H20.out hpb
      have HR' : Hid (oout D S s sec i' = R ++ olin D S s sec i) := by show _ = _; rw [hi', HR.out]; exact oout_one
      have HL0 : Hid (oev S s i = [] → olin D S s sec i = []) := olin_nil
      have HL1 : Hid (oev S s i ≠ [] → olin D S s sec i = [ln3 (D.Nm i) wEvs ((oev S s i).length : Int), ln3 (D.Nm i) wVol (psum (evsOf (oev S s i)).Tot (oev S s i).length), ln3 (D.Nm i) wLon (lonS (oev S s i) * sec)]) := olin_some
      generalize oev S s i = ev at SO HO HL0 HL1
      obtain ⟨q, hq⟩ : ∃ q, q = ev.length := ⟨_, rfl⟩
      have HQL := Lib.hid hq
      have SCT : Hid (∀ A c w, EvIn w A q (evsOf ev) → Calls Tryz.prog 72 #[.slice A q c] w (CntPost w q (evsOf ev))) := fun A c w ht => by subst hq; exact rCount A _ c _ HO.out.cnt w ht
      clear hi' hsz hlt hpb hpo hq
      by_cases hev : ev = []
      case pos =>
        have hq0 : q = 0 := by rw [HQL.out, hev]; rfl
        have HRE : Hid (oout D S s sec i' = R) := by show _ = _; rw [HR'.out, HL0.out hev, List.append_nil]
        have HRL : Hid (N = (oout D S s sec i').length) := by show _ = _; rw [HRE.out]; exact HN.out
        clear hev HL0 HL1 HO HR'
        subst hq0
        go_wp2_with (first
          | (go_at_call 71
             with_reducible refine (SO.out _ ?_).mono ?_
             focus (exact HT.out.below (Nat.le_refl _) HWr.out)
             rintro e w5 ⟨A3, N3, cap3, rfl, hN3, hc3, hE3, hb5⟩
             obtain rfl : N3 = 0 := hN3.trans HQL.out.symm
             have HE3 := Lib.hid hE3
             have HQ5 := Lib.hid (HQ.out.call hb5)
             clear hN3 hc3 hE3 hb5)
          | (go_at_call 72
             with_reducible refine (SCT.out _ _ _ ?_).mono ?_
             focus (exact HE3.out)
             rintro e w6 ⟨⟨g, rfl⟩, hb6⟩
             have HQ6 := Lib.hid (HQ5.out.call hb6)
             clear hb6))
        go_roundw
        case rel => exact ⟨i', N, _, HI', rfl, rfl, HRL, by rw [HRE.out]; exact HQ6⟩
        case measure => exact HMS.out
      have hqp : 1 ≤ q := by have := List.length_pos_iff.2 hev; rw [HQL.out]; omega
      have t5 : ((q : Int) == 0) = false := by simp; omega
      have t5' : (q == 0) = false := by simp; omega
      have HRE : Hid (oout D S s sec i' = R ++ [ln3 (D.Nm i) wEvs (q : Int), ln3 (D.Nm i) wVol (psum (evsOf ev).Tot q), ln3 (D.Nm i) wLon (lonS ev * sec)]) := by show _ = _; rw [HR'.out, HL1.out hev, HQL.out]
      have hog := HO.out
      have HEV : Hid (∀ k, k < q → 0 ≤ (evsOf ev).F k ∧ (evsOf ev).F k < (evsOf ev).To k ∧ (evsOf ev).To k ≤ 20) := fun k hk => by
        have := hog.each k (by rw [← HQL.out]; exact hk)
        exact ⟨this.1, this.2.1, this.2.2.2⟩
      have HQ20 : Hid (q ≤ 20) := by show q ≤ 20; have := hog.cnt.n20; rw [HQL.out]; exact this
      have hls := lon_sec ⟨hog.lon.1, hog.lon.2.2⟩ HSC.out
      obtain ⟨ls, hlsd⟩ : ∃ z, z = lonS ev * sec := ⟨_, rfl⟩
      obtain ⟨tt, htt⟩ : ∃ z, z = psum (evsOf ev).Tot q := ⟨_, rfl⟩
      have HNB : Hid ((0 ≤ ls ∧ ls ≤ 1728000) ∧ (0 ≤ tt ∧ tt ≤ 1152921504606846976) ∧ q ≤ 20) := by
        refine ⟨by rw [hlsd]; exact hls, ?_, HQ20.out⟩
        rw [htt, HQL.out]
        exact hog.tot
      have x9 : IntKind.i64.wrap (lonS ev * sec) = ls := by rw [← hlsd, IntKind.wrap_i64]; have := HNB.out; omega
      rw [← hlsd, ← htt] at HRE
      have HTT := Lib.hid htt
      clear hev HL0 HL1 HO HR' hqp hog hls hlsd htt
      go_upto_region 20 with (first
        | (go_at_call 71
           with_reducible refine (SO.out _ ?_).mono ?_
           focus (exact HT.out.below (Nat.le_refl _) HWr.out)
           rintro e w5 ⟨A3, N3, cap3, rfl, hN3, hc3, hE3, hb5⟩
           obtain rfl : q = N3 := HQL.out.trans hN3.symm
           have HE3 := Lib.hid hE3
           have HQ5 := Lib.hid (HQ.out.call hb5)
           have HB5 := Lib.hid (HBr.out.call hb5)
           have HW5 := Lib.hid (below_step HWr.out hb5)
           clear hN3 hc3 hE3 hb5)
        | (go_at_call 72
           with_reducible refine (SCT.out _ _ _ ?_).mono ?_
           focus (exact HE3.out)
           rintro e w6 ⟨⟨g, rfl⟩, hb6⟩
           have HE6 := Lib.hid (HE3.out.below (Nat.le_refl _) hb6)
           have HQ6 := Lib.hid (HQ5.out.call hb6)
           have HB6 := Lib.hid (HB5.out.call hb6)
           have HW6 := Lib.hid (below_step HW5.out hb6)
           clear hb6))
      rw [← HTT.out]
      clear HQ HBr HWr HE3 HQ5 HB5 HW5 HTT d0 d1
      go_wp2_with fail
      obtain ⟨w0, rfl⟩ : ∃ w0 : World, w0 = wr := ⟨_, rfl⟩
      go_loopw [17, 18] (fun a u wr => ∃ (j : Nat) (lo : Int), Hid (j ≤ q) ∧ u = .int .i64 j ∧ a = .int .i64 lo ∧ Hid (lo = mx (fun k => (evsOf ev).To k - (evsOf ev).F k) j) ∧ Hid (Below w6.heap.size w6 wr)) (fun _ u _ => q - (RowKit.intOf u).toNat)
      case atStart => exact ⟨0, 0, Nat.zero_le _, rfl, rfl, rfl, Below.refl _ _⟩
      case round =>
        obtain ⟨j, lo, Hj, rfl, rfl, HLO, HWj⟩ := hrel
        have HWWj := Lib.hid (below_step HW6.out HWj.out)
        by_cases hlt : j < q
        · have T0 : decide ((j : Int) < (q : Int)) = true := by simp <;> omega
          have T0' : decide (j < q) = true := decide_eq_true hlt
          obtain ⟨j', hi'⟩ : ∃ z, z = j + 1 := ⟨_, rfl⟩
          have x0 : IntKind.i64.wrap ((j : Int) + 1) = (j' : Int) := by have := HQ20.out; rw [IntKind.wrap_i64]; omega
          have HI' : Hid (j' ≤ q) := by show j' ≤ q; omega
          have HMS : Hid (q - (RowKit.intOf (Value.int .i64 (j' : Int))).toNat < q - (RowKit.intOf (Value.int .i64 (j : Int))).toNat) := by show _ < _; simp [RowKit.intOf]; omega
          have k0 : (0 : Int) ≤ (j : Int) := by omega
          have k1 : (j : Int) < (q : Int) := by omega

          obtain ⟨be, oe, rfl, hbe, c0, c1, c2, c3⟩ := (HE6.out.below (Nat.le_refl _) HWj.out).at hlt
          have hte := HEV.out j hlt
          obtain ⟨d, hd⟩ : ∃ z, z = (evsOf ev).To j - (evsOf ev).F j := ⟨_, rfl⟩
          have x1 : IntKind.i64.wrap ((evsOf ev).To j - (evsOf ev).F j) = d := by rw [← hd, IntKind.wrap_i64]; omega
          have HLO' : Hid ((if lo < d then d else lo) = mx (fun k => (evsOf ev).To k - (evsOf ev).F k) j') := by show _ = _; rw [hi', HLO.out, hd]; rfl
          clear hi' hte hd
          by_cases hh : lo < d
          · have t6 : decide (lo < d) = true := decide_eq_true hh
            rw [if_pos hh] at HLO'
            clear hlt hh
            go_wp2_with fail
            go_region
            go_wp2_with fail
            go_region
            go_wp2_with fail
            go_roundw
            case rel => exact ⟨j', _, HI', rfl, rfl, HLO', by have := HWj.out; (repeat' (first | assumption | exact Below.refl _ _ | exact Below.size (by assumption) | (refine Below.setCell ?_ ?_ _) | (refine Below.alloc ?_ ?_ _) | (refine Below.drew ?_) | (refine below_drewN ?_ _) | (refine Below.trans ?_ (Below.mono ‹Below _ _ _› ?_)) | omega | (simp; done) | (simp; omega) | (simp at *; omega)))⟩
            case measure => exact HMS.out
          · have t6 : decide (lo < d) = false := decide_eq_false hh
            rw [if_neg hh] at HLO'
            clear hlt hh
            go_wp2_with fail
            go_region
            go_wp2_with fail
            go_roundw
            case rel => exact ⟨j', _, HI', rfl, rfl, HLO', by have := HWj.out; (repeat' (first | assumption | exact Below.refl _ _ | exact Below.size (by assumption) | (refine Below.setCell ?_ ?_ _) | (refine Below.alloc ?_ ?_ _) | (refine Below.drew ?_) | (refine below_drewN ?_ _) | (refine Below.trans ?_ (Below.mono ‹Below _ _ _› ?_)) | omega | (simp; done) | (simp; omega) | (simp at *; omega)))⟩
            case measure => exact HMS.out
        · have T0 : decide ((j : Int) < (q : Int)) = false := by simp <;> omega
          have T0' : decide (j < q) = false := decide_eq_false hlt
          have hin : j = q := by have := Hj.out; omega

          subst hin
          clear hlt
          have HLX : Hid (lo = lonS ev) := by show lo = mx _ ev.length; rw [← HQL.out]; exact HLO.out
          obtain rfl : lo = lonS ev := HLX.out
          clear HLO HLX
          have HQj := Lib.hid (HQ6.out.call HWj.out)
          obtain ⟨d0, d1⟩ := blk2 (HB6.out.call HWj.out)
          obtain ⟨b, off, rfl, hb, hC, htab⟩ := (HD.out.below (Nat.le_refl _) HWWj.out).at HLT.out
          have c0 := hC 0 _ rfl
          simp only [Nat.add_zero] at c0
          have hnb := HNB.out
          have hsz := HSZ.out
          have L1 := Lib.hid fun w => rnum55 (j : Int) (by omega) (by omega) w
          have L2 := Lib.hid fun w => rnum55 tt (by omega) (by omega) w
          have L3 := Lib.hid fun w => rnum55 ls (by omega) (by omega) w
          have h1 : (⟨(Lib.itoa (j : Int)).toArray⟩ : ByteArray).size ≤ 600 := Itm.size (x := .n (j : Int)) ⟨by omega, by omega⟩
          have h2 : (⟨(Lib.itoa tt).toArray⟩ : ByteArray).size ≤ 600 := Itm.size (x := .n tt) ⟨by omega, by omega⟩
          have h3 : (⟨(Lib.itoa ls).toArray⟩ : ByteArray).size ≤ 600 := Itm.size (x := .n ls) ⟨by omega, by omega⟩
          have E1 : Hid ((D.Nm i ++ ⟨#[32, 101, 118, 101, 110, 116, 115, 32]⟩) ++ ⟨(Lib.itoa (j : Int)).toArray⟩ = ln3 (D.Nm i) wEvs (j : Int)) := ln3_cat _ _ _ _ rfl
          have E2 : Hid ((D.Nm i ++ ⟨#[32, 118, 111, 108, 117, 109, 101, 32]⟩) ++ ⟨(Lib.itoa tt).toArray⟩ = ln3 (D.Nm i) wVol tt) := ln3_cat _ _ _ _ rfl
          have E3 : Hid ((D.Nm i ++ ⟨#[32, 108, 111, 110, 103, 101, 115, 116, 32]⟩) ++ ⟨(Lib.itoa ls).toArray⟩ = ln3 (D.Nm i) wLon ls) := ln3_cat _ _ _ _ rfl
          generalize (⟨(Lib.itoa (j : Int)).toArray⟩ : ByteArray) = x1 at L1 h1 E1
          generalize (⟨(Lib.itoa tt).toArray⟩ : ByteArray) = x2 at L2 h2 E2
          generalize (⟨(Lib.itoa ls).toArray⟩ : ByteArray) = x3 at L3 h3 E3
          rw [← E1.out, ← E2.out, ← E3.out] at HRE
          have HLEN : Hid (N + 3 = (R ++ [(D.Nm i ++ ⟨#[32, 101, 118, 101, 110, 116, 115, 32]⟩) ++ x1, (D.Nm i ++ ⟨#[32, 118, 111, 108, 117, 109, 101, 32]⟩) ++ x2, (D.Nm i ++ ⟨#[32, 108, 111, 110, 103, 101, 115, 116, 32]⟩) ++ x3]).length) := by show _ = _; rw [List.length_append, HN.out]; rfl
          have v0 : (((D.Nm i).size : Nat) : Int) ≤ 8388608 := by omega
          have v1 : ((x1.size : Nat) : Int) ≤ 8388608 := by omega
          have v2 : ((x2.size : Nat) : Int) ≤ 8388608 := by omega
          have v3 : ((x3.size : Nat) : Int) ≤ 8388608 := by omega
          have v4 : (((D.Nm i ++ ⟨#[32, 101, 118, 101, 110, 116, 115, 32]⟩ : ByteArray).size : Nat) : Int) ≤ 8388608 := by
            have : (D.Nm i ++ ⟨#[32, 101, 118, 101, 110, 116, 115, 32]⟩ : ByteArray).size = (D.Nm i).size + 8 := by rw [ByteArray.size_append]; rfl
            omega
          have v5 : (((D.Nm i ++ ⟨#[32, 118, 111, 108, 117, 109, 101, 32]⟩ : ByteArray).size : Nat) : Int) ≤ 8388608 := by
            have : (D.Nm i ++ ⟨#[32, 118, 111, 108, 117, 109, 101, 32]⟩ : ByteArray).size = (D.Nm i).size + 8 := by rw [ByteArray.size_append]; rfl
            omega
          have v6 : (((D.Nm i ++ ⟨#[32, 108, 111, 110, 103, 101, 115, 116, 32]⟩ : ByteArray).size : Nat) : Int) ≤ 8388608 := by
            have : (D.Nm i ++ ⟨#[32, 108, 111, 110, 103, 101, 115, 116, 32]⟩ : ByteArray).size = (D.Nm i).size + 9 := by rw [ByteArray.size_append]; rfl
            omega
          have lm1 : ¬ 9223372036854775807 < (D.Nm i).size + 8 := by omega
          have lm2 : ¬ 9223372036854775807 < (D.Nm i).size + 8 + x1.size := by omega
          have lm3 : ¬ 9223372036854775807 < (D.Nm i).size + 8 + x2.size := by omega
          have lm4 : ¬ 9223372036854775807 < (D.Nm i).size + 9 := by omega
          have lm5 : ¬ 9223372036854775807 < (D.Nm i).size + 9 + x3.size := by omega
          have m0 : (0 : Int) ≤ (i : Int) := by omega
          have m1 : (i : Int) < (n : Int) := by have := HLT.out; omega
          generalize lonS ev = lon at x9 ⊢
          clear hnb hsz h1 h2 h3 E1 E2 E3 HNB hC htab HE6 HQ6 HB6
          go_wp2_with (first
            | (go_at_call 57
               with_reducible refine (L1.out _).mono ?_
               rintro e wn1 ⟨rfl, hbn1⟩
               have HQn1 := Lib.hid (HQj.out.call hbn1)
               clear hbn1)
            | (go_at_call 57
               with_reducible refine (L2.out _).mono ?_
               rintro e wn2 ⟨rfl, hbn2⟩
               have HQn2 := Lib.hid (HQn1.out.call hbn2)
               clear hbn2)
            | (go_at_call 57
               with_reducible refine (L3.out _).mono ?_
               rintro e wn3 ⟨rfl, hbn3⟩
               have HQn3 := Lib.hid (HQn2.out.call hbn3)
               clear hbn3)
            | (at_builtin; refine wpList_append_own_at _ ?rova (.tmp 100) (.tmp 118) 27 ?rovb (w1.heap.size) 9 SI0 (.string ByteArray.empty) 1 16 Tryz.underlying27 SI1.out SI2.out SI3.out SI4.out ?rovc ?rovd (.slice A8 N cap8) (N) (sc R) ?rove (HQn3.out.1.alloc _) (⟨wn3.heap.size, 0, none⟩) (3) (3) ([.string ((D.Nm i ++ ⟨#[32, 101, 118, 101, 110, 116, 115, 32]⟩) ++ x1), .string ((D.Nm i ++ ⟨#[32, 118, 111, 108, 117, 109, 101, 32]⟩) ++ x2), .string ((D.Nm i ++ ⟨#[32, 108, 111, 110, 103, 101, 115, 116, 32]⟩) ++ x3)]) ?rovg (rfl) (World.news_of_block (cs := #[.string ((D.Nm i ++ ⟨#[32, 101, 118, 101, 110, 116, 115, 32]⟩) ++ x1), .string ((D.Nm i ++ ⟨#[32, 118, 111, 108, 117, 109, 101, 32]⟩) ++ x2), .string ((D.Nm i ++ ⟨#[32, 108, 111, 110, 103, 101, 115, 116, 32]⟩) ++ x3)]) (t := 9) (fr := (0, 0)) (heap_alloc_new _ _)) ((by simp [Value.oneCell'])) (h63_3 HN2.out) (hby_3 HN2.out) (Nat.le_trans HQn3.out.2.size (by simp)) ?rovh
               case rova => exact rfl
               case rovb => exact rfl
               case rovc => exact rfl
               case rovd => decide
               case rove => exact rfl
               case rovg => exact rfl
               intro v2 w7 hown2 hgrow2 hnil2 hat2
               have HM8 := Lib.hid (HQn3.out.app3 hown2 hgrow2)
               clear hown2 hgrow2 hnil2 hat2))
          go_roundw
          case rel => exact ⟨i', N + 3, _, HI', rfl, HRE.out.symm, HLEN, HM8⟩
          case measure => exact HMS.out
    · have T0 : decide ((i : Int) < (n : Int)) = false := by simp <;> omega
      have T0' : decide (i < n) = false := decide_eq_false hlt
      have hin : i = n := by have := Hi.out; omega

      have HIN := Lib.hid hin
      clear hin hlt
      go_wp2_with fail
      go_ret2
      exact HQ.out.lin H1.out HN.out HN2.out (.inr (.inr ⟨HG.out, HSC.out, by rw [HR.out, HIN.out], rfl⟩))
end Go.Proofs.YtfgakaielfekoaaGreatDoor

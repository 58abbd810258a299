/- Overflows of package reports. -/
import Derived.Test.YtfgakaielfekoaaGreatDoorOvp
import Derived.Test.YtfgakaielfekoaaGreatDoorTnp
namespace Go.Proofs.YtfgakaielfekoaaGreatDoor
open Go.RowKit
set_option linter.unusedVariables false
set_option linter.unusedSimpArgs false

set_option maxRecDepth 100000 in
set_option maxHeartbeats 32000000 in
theorem tOver (NA LA : Option Addr) (n nc m lc : Nat) (D : Nds) (K : Lks) (hz : NetSz D n K m) (A : Option Addr) (s c : Nat) (S : Sts) (sec : Int) (h20 : s ≤ 20) (h14 : n ≤ 14) (hnm : ∀ i, i < n → (D.Nm i).size ≤ 60) (hs : ∀ k, k < s → S.VN k ≤ 2000 ∧ S.PN k ≤ 2000 ∧ S.SN k ≤ 2000 ∧ S.ON k ≤ 2000) (w : World) (hE : Env5 w) (hD : NdIn w NA n D) (hK : LkIn w LA m K) (ht : StIn w A s S) :
    Calls Tryz.prog 26 #[.agg #[.slice NA n nc, .slice LA m lc], .slice A s c, .int .i64 sec] w (LinPost w (OverIs D n K m S s sec)) := by
  have HE := Lib.hid hE
  have HD := Lib.hid hD
  have HK := Lib.hid hK
  have HT := Lib.hid ht
  have H20 := Lib.hid h20
  have H14 := Lib.hid h14
  have HNM := Lib.hid hnm
  have HSS := Lib.hid hs
  have H0 : Hid (Below w.heap.size w (w.alloc (Obj.cells #[.slice NA n nc, .slice LA m lc] 25))) := (Below.refl _ w).alloc (Nat.le_refl _) _
  have HB0 := Lib.hid (Blk.new w 25 #[.slice NA n nc, .slice LA m lc])
  have ss := fun w hD hK ht => tstates NA LA n nc m lc D K hz A s c S (by omega) hs w hD hK ht
  have t2 : decide ((10000 : Int) < (s : Int)) = false := decide_eq_false (by omega)
  have t2' : decide (10000 < s) = false := decide_eq_false (by omega)
  by_cases g0 : stsP D n K m S s
  case neg =>
    rw [boolOf_false g0] at ss
    have SS := Lib.hid ss
    have HR : Hid (OverIs D n K m S s sec [] 1) := .inl ⟨g0, rfl, rfl⟩
    clear ss g0 hz hE h20 h14 hnm hs hD hK ht
    go_enter Tryz.func26, Tryz.ntmps26
    go_wp2_with (first
      | (go_at_call 62
         with_reducible refine (SS.out _ ?_ ?_ ?_).mono ?_
         focus (exact HD.out.below (Nat.le_refl _) H0.out)
         focus (exact HK.out.below (Nat.le_refl _) H0.out)
         focus (exact HT.out.below (Nat.le_refl _) H0.out)
         rintro e w1 ⟨rfl, hb1⟩
         have H1 := Lib.hid (below_step H0.out hb1)
         have HB1 := Lib.hid (HB0.out.call hb1)
         obtain ⟨d0, d1⟩ := blk2 HB1.out
         clear hb1))
    go_ret2
    exact lin_nil HR.out H1.out
  rw [boolOf_true g0] at ss
  have SS := Lib.hid ss
  by_cases g1 : sec < 1
  case pos =>
    have HR : Hid (OverIs D n K m S s sec [] 2) := .inr (.inl ⟨g0, by omega, rfl, rfl⟩)
    have t1 : decide (sec < 1) = true := decide_eq_true g1
    clear ss g0 g1 hz hE h20 h14 hnm hs hD hK ht
    go_enter Tryz.func26, Tryz.ntmps26
    go_wp2_with (first
      | (go_at_call 62
         with_reducible refine (SS.out _ ?_ ?_ ?_).mono ?_
         focus (exact HD.out.below (Nat.le_refl _) H0.out)
         focus (exact HK.out.below (Nat.le_refl _) H0.out)
         focus (exact HT.out.below (Nat.le_refl _) H0.out)
         rintro e w1 ⟨rfl, hb1⟩
         have H1 := Lib.hid (below_step H0.out hb1)
         have HB1 := Lib.hid (HB0.out.call hb1)
         obtain ⟨d0, d1⟩ := blk2 HB1.out
         clear hb1))
    go_ret2
    exact lin_nil HR.out H1.out
  have t1 : decide (sec < 1) = false := decide_eq_false g1
  by_cases g2 : 86400 < sec
  case pos =>
    have HR : Hid (OverIs D n K m S s sec [] 2) := .inr (.inl ⟨g0, by omega, rfl, rfl⟩)
    have t3 : decide (86400 < sec) = true := decide_eq_true g2
    clear ss g0 g1 g2 hz hE h20 h14 hnm hs hD hK ht
    go_enter Tryz.func26, Tryz.ntmps26
    go_wp2_with (first
      | (go_at_call 62
         with_reducible refine (SS.out _ ?_ ?_ ?_).mono ?_
         focus (exact HD.out.below (Nat.le_refl _) H0.out)
         focus (exact HK.out.below (Nat.le_refl _) H0.out)
         focus (exact HT.out.below (Nat.le_refl _) H0.out)
         rintro e w1 ⟨rfl, hb1⟩
         have H1 := Lib.hid (below_step H0.out hb1)
         have HB1 := Lib.hid (HB0.out.call hb1)
         obtain ⟨d0, d1⟩ := blk2 HB1.out
         clear hb1))
    go_ret2
    exact lin_nil HR.out H1.out
  have t3 : decide (86400 < sec) = false := decide_eq_false g2
  have HG := Lib.hid g0
  have HSC : Hid (1 ≤ sec ∧ sec ≤ 86400) := by show 1 ≤ sec ∧ sec ≤ 86400; omega
  obtain ⟨SI0, si0, sz0, sz1, sz2⟩ := info_parts1 infoS
  have SI1 := Lib.hid si0
  have SI2 := Lib.hid sz0
  have SI3 := Lib.hid sz1
  have SI4 := Lib.hid sz2
  clear si0 sz0 sz1 sz2

  clear ss g0 g1 g2 hz hE h20 h14 hnm hs hD hK ht
  go_enter Tryz.func26, Tryz.ntmps26
  go_wp2_with (first
    | (go_at_call 62
       with_reducible refine (SS.out _ ?_ ?_ ?_).mono ?_
       focus (exact HD.out.below (Nat.le_refl _) H0.out)
       focus (exact HK.out.below (Nat.le_refl _) H0.out)
       focus (exact HT.out.below (Nat.le_refl _) H0.out)
       rintro e w1 ⟨rfl, hb1⟩
       have H1 := Lib.hid (below_step H0.out hb1)
       have HB1 := Lib.hid (HB0.out.call hb1)
       obtain ⟨d0, d1⟩ := blk2 HB1.out
       clear hb1))
  clear d0 d1
  generalize hgw : w.heap.size = gw at HB1
  clear HB0 H0
  go_loopw [8, 38] (fun u v wr => ∃ (i N : Nat) (R : List ByteArray), Hid (i ≤ n) ∧ v = .int .i64 i ∧ Hid (R = oout D S s sec i) ∧ Hid (N = R.length) ∧ Hid (RMem5 w1 wr u N R)) (fun _ v _ => n - (RowKit.intOf v).toNat)
  case atStart => exact ⟨0, 0, [], Nat.zero_le _, rfl, rfl, rfl, World.ownsRow_nil _ _ _ _, Below.refl _ _⟩
  case round =>
    obtain ⟨i, N, R, Hi, rfl, HR, HN, HQ⟩ := hrel
    obtain ⟨A8, cap8, h8⟩ := HQ.out.form
    subst h8
    have HWr : Hid (Below w.heap.size w wr) := below_step H1.out HQ.out.2
    have HN2 : Hid (N ≤ 2000) := by show N ≤ 2000; rw [HN.out, HR.out]; have := oout_len D S s sec i; have := Hi.out; have := H14.out; omega
    have HBr := Lib.hid (HB1.out.call HQ.out.2)
    obtain ⟨d0, d1⟩ := blk2 HBr.out
    by_cases hlt : i < n
    · have T0 : decide ((i : Int) < (n : Int)) = true := by simp <;> omega
      have T0' : decide (i < n) = true := decide_eq_true hlt
      obtain ⟨i', hi'⟩ : ∃ z, z = i + 1 := ⟨_, rfl⟩
      have x0 : IntKind.i64.wrap ((i : Int) + 1) = (i' : Int) := by have := H14.out; rw [IntKind.wrap_i64]; omega
      have HI' : Hid (i' ≤ n) := by show i' ≤ n; omega
      have HMS : Hid (n - (RowKit.intOf (Value.int .i64 (i' : Int))).toNat < n - (RowKit.intOf (Value.int .i64 (i : Int))).toNat) := by show _ < _; simp [RowKit.intOf]; omega
      have k0 : (0 : Int) ≤ (i : Int) := by omega
      have k1 : (i : Int) < (n : Int) := by omega

      obtain ⟨b, off, rfl, hb, hC, htab⟩ := (HD.out.below (Nat.le_refl _) HWr.out).at hlt
      have c0 := hC 0 _ rfl
      have c1 := hC 1 _ rfl
      have c2 := hC 2 _ rfl
      have c3 := hC 3 _ rfl
      have c4 := hC 4 _ rfl
      have c5 := hC 5 _ rfl
      have c6 := hC 6 _ rfl
      have c7 := hC 7 _ rfl
      have c8 := hC 8 _ rfl
      simp only [Nat.add_zero] at c0
      have hsz := HNM.out i hlt
      have HSZ := Lib.hid hsz
      have HLT := Lib.hid hlt
      have hpb : ∀ k, k < s → 0 ≤ S.P k i ∧ S.P k i ≤ 1125899906842624 := fun k hk => (HG.out.vol hk hlt).2.1
      have hpo : ∀ k, k < s → i < S.PN k ∧ S.PN k ≤ 2000 ∧ 0 ≤ S.P k i ∧ S.P k i ≤ 1125899906842624 := fun k hk => ⟨(HG.out.vol hk hlt).2.2.2, (HSS.out k hk).2.1, hpb k hk⟩
      have SO : Hid (∀ w, StIn w A s S → Calls Tryz.prog 31 #[.slice A s c, .int .i64 (i : Int)] w (OfPost w (oev S s i))) := fun w ht => tOf A s c S i H20.out hpo w ht
      have HO : Hid (OGood s (oev S s i)) := oev_good H20.out hpb
      have HR' : Hid (oout D S s sec i' = R ++ olin D S s sec i) := by show _ = _; rw [hi', HR.out]; exact oout_one
      have HL0 : Hid (oev S s i = [] → olin D S s sec i = []) := olin_nil
      have HL1 : Hid (oev S s i ≠ [] → olin D S s sec i = [ln3 (D.Nm i) wEvs ((oev S s i).length : Int), ln3 (D.Nm i) wVol (psum (evsOf (oev S s i)).Tot (oev S s i).length), ln3 (D.Nm i) wLon (lonS (oev S s i) * sec)]) := olin_some
      have HX0 : Hid (oout D S s sec i = R) := HR.out.symm
      generalize oev S s i = ev at SO HO HL0 HL1
      obtain ⟨q, hq⟩ : ∃ q, q = ev.length := ⟨_, rfl⟩
      have HQL := Lib.hid hq
      have SCT : Hid (∀ A c w, EvIn w A q (evsOf ev) → Calls Tryz.prog 32 #[.slice A q c] w (CntPost w q (evsOf ev))) := fun A c w ht => by subst hq; exact tCount A _ c _ HO.out.cnt w ht
      clear hi' hC htab hsz hlt hpb hpo hq
      go_upto_region 11 with fail
      have hal : Below wr.heap.size wr (wr.alloc (Obj.cells #[.string (D.Nm i), .int .i64 (D.Kd i), .int .i64 (D.Ax i), .int .i64 (D.Ay i), .int .i64 (D.Iv i), .int .i64 (D.Gd i), .slice (D.SA i) (D.SN i) (D.SC i), .bool (D.Pt i), .int .i64 (D.Rs i)] 65)) := (Below.refl _ wr).alloc (Nat.le_refl _) _
      have HBG := Lib.hid (Blk.new wr 65 #[.string (D.Nm i), .int .i64 (D.Kd i), .int .i64 (D.Ax i), .int .i64 (D.Ay i), .int .i64 (D.Iv i), .int .i64 (D.Gd i), .slice (D.SA i) (D.SN i) (D.SC i), .bool (D.Pt i), .int .i64 (D.Rs i)])
      have HQ4 := Lib.hid (HQ.out.call hal)
      have HW4 := Lib.hid (below_step HWr.out hal)
      have HB4 := Lib.hid (HBr.out.call hal)
      clear hal d0 d1 c0 c1 c2 c3 c4 c5 c6 c7 c8 hb
      generalize wr.alloc (Obj.cells #[.string (D.Nm i), .int .i64 (D.Kd i), .int .i64 (D.Ax i), .int .i64 (D.Ay i), .int .i64 (D.Iv i), .int .i64 (D.Gd i), .slice (D.SA i) (D.SN i) (D.SC i), .bool (D.Pt i), .int .i64 (D.Rs i)] 65) = w4 at HBG HQ4 HW4 HB4 ⊢
      generalize wr.heap.size = G at HBG ⊢
      clear HQ HWr HBr
      by_cases hev : ev = []
      case pos =>
        have hq0 : q = 0 := by rw [HQL.out, hev]; rfl
        have HRE : Hid (oout D S s sec i' = R) := by show _ = _; rw [HR'.out, HL0.out hev, List.append_nil]
        have HRL : Hid (N = (oout D S s sec i').length) := by show _ = _; rw [HRE.out]; exact HN.out
        clear hev HL0 HL1 HO HR'
        subst hq0
        go_wp2_with (first
          | (go_at_call 31
             with_reducible refine (SO.out _ ?_).mono ?_
             focus (exact HT.out.below (Nat.le_refl _) HW4.out)
             rintro e w5 ⟨A3, N3, cap3, rfl, hN3, hc3, hE3, hb5⟩
             obtain rfl : N3 = 0 := hN3.trans HQL.out.symm
             have HE3 := Lib.hid hE3
             have HQ5 := Lib.hid (HQ4.out.call hb5)
             clear hN3 hc3 hE3 hb5)
          | (go_at_call 32
             with_reducible refine (SCT.out _ _ _ ?_).mono ?_
             focus (exact HE3.out)
             rintro e w6 ⟨⟨g, rfl⟩, hb6⟩
             have HQ6 := Lib.hid (HQ5.out.call hb6)
             clear hb6))
        go_roundw
        case rel => exact ⟨i', N, _, HI', rfl, rfl, HRL, by rw [HRE.out]; exact HQ6⟩
        case measure => exact HMS.out
      have hqp : 1 ≤ q := by have := List.length_pos_iff.2 hev; rw [HQL.out]; omega
      have t5 : ((q : Int) == 0) = false := by simp; omega
      have t5' : (q == 0) = false := by simp; omega
      have HRE : Hid (oout D S s sec i' = R ++ [ln3 (D.Nm i) wEvs (q : Int), ln3 (D.Nm i) wVol (psum (evsOf ev).Tot q), ln3 (D.Nm i) wLon (lonS ev * sec)]) := by show _ = _; rw [HR'.out, HL1.out hev, HQL.out]
      have hog := HO.out
      rw [← show ev.length = q from HQL.out.symm] at HRE
      have HEV : Hid (∀ k, k < q → 0 ≤ (evsOf ev).F k ∧ (evsOf ev).F k < (evsOf ev).To k ∧ (evsOf ev).To k ≤ 20) := fun k hk => by
        have := hog.each k (by rw [← HQL.out]; exact hk)
        exact ⟨this.1, this.2.1, this.2.2.2⟩
      have HQ20 : Hid (q ≤ 20) := by show q ≤ 20; have := hog.cnt.n20; rw [HQL.out]; exact this
      have hls := lon_sec ⟨hog.lon.1, hog.lon.2.2⟩ HSC.out
      obtain ⟨ls, hlsd⟩ : ∃ z, z = lonS ev * sec := ⟨_, rfl⟩
      obtain ⟨tt, htt⟩ : ∃ z, z = psum (evsOf ev).Tot q := ⟨_, rfl⟩
      have HNB : Hid ((0 ≤ ls ∧ ls ≤ 1728000) ∧ (0 ≤ tt ∧ tt ≤ 1152921504606846976) ∧ q ≤ 20) := by
        refine ⟨by rw [hlsd]; exact hls, ?_, HQ20.out⟩
        rw [htt, HQL.out]
        exact hog.tot
      have x9 : IntKind.i64.wrap (lonS ev * sec) = ls := by rw [← hlsd, IntKind.wrap_i64]; have := HNB.out; omega
      rw [HQL.out.symm, ← hlsd, ← htt] at HRE
      have HTT := Lib.hid htt
      clear hev HL0 HL1 HO HR' hqp hog hls hlsd htt
      go_upto_region 19 with (first
        | (go_at_call 31
           with_reducible refine (SO.out _ ?_).mono ?_
           focus (exact HT.out.below (Nat.le_refl _) HW4.out)
           rintro e w5 ⟨A3, N3, cap3, rfl, hN3, hc3, hE3, hb5⟩
           obtain rfl : q = N3 := HQL.out.trans hN3.symm
           have HE3 := Lib.hid hE3
           have HQ5 := Lib.hid (HQ4.out.call hb5)
           have HBG5 := Lib.hid (HBG.out.call hb5)
           have HB5 := Lib.hid (HB4.out.call hb5)
           have HW5 := Lib.hid (below_step HW4.out hb5)
           clear hN3 hc3 hE3 hb5)
        | (go_at_call 32
           with_reducible refine (SCT.out _ _ _ ?_).mono ?_
           focus (exact HE3.out)
           rintro e w6 ⟨⟨g, rfl⟩, hb6⟩
           have HE6 := Lib.hid (HE3.out.below (Nat.le_refl _) hb6)
           have HQ6 := Lib.hid (HQ5.out.call hb6)
           have HBG6 := Lib.hid (HBG5.out.call hb6)
           have HB6 := Lib.hid (HB5.out.call hb6)
           have HW6 := Lib.hid (below_step HW5.out hb6)
           clear hb6))
      rw [← HTT.out]
      clear HQ4 HBG HB4 HW4 HE3 HQ5 HBG5 HB5 HW5 HTT
      go_wp2_with fail
      obtain ⟨w0, rfl⟩ : ∃ w0 : World, w0 = wr := ⟨_, rfl⟩
      go_loopw [16, 66] (fun a u wr => ∃ (j : Nat) (lo : Int), Hid (j ≤ q) ∧ u = .int .i64 j ∧ a = .int .i64 lo ∧ Hid (lo = mx (fun k => (evsOf ev).To k - (evsOf ev).F k) j) ∧ Hid (Below w6.heap.size w6 wr)) (fun _ u _ => q - (RowKit.intOf u).toNat)
      case atStart => exact ⟨0, 0, Nat.zero_le _, rfl, rfl, rfl, Below.refl _ _⟩
      case round =>
        obtain ⟨j, lo, Hj, rfl, rfl, HLO, HWj⟩ := hrel
        have HWWj := Lib.hid (below_step HW6.out HWj.out)
        have HBGj := Lib.hid (HBG6.out.call HWj.out)
        by_cases hlt : j < q
        · have T0 : decide ((j : Int) < (q : Int)) = true := by simp <;> omega
          have T0' : decide (j < q) = true := decide_eq_true hlt
          obtain ⟨j', hi'⟩ : ∃ z, z = j + 1 := ⟨_, rfl⟩
          have x0 : IntKind.i64.wrap ((j : Int) + 1) = (j' : Int) := by have := HQ20.out; rw [IntKind.wrap_i64]; omega
          have HI' : Hid (j' ≤ q) := by show j' ≤ q; omega
          have HMS : Hid (q - (RowKit.intOf (Value.int .i64 (j' : Int))).toNat < q - (RowKit.intOf (Value.int .i64 (j : Int))).toNat) := by show _ < _; simp [RowKit.intOf]; omega
          have k0 : (0 : Int) ≤ (j : Int) := by omega
          have k1 : (j : Int) < (q : Int) := by omega

          obtain ⟨be, oe, rfl, hbe, c0, c1, c2, c3⟩ := (HE6.out.below (Nat.le_refl _) HWj.out).at hlt
          have hte := HEV.out j hlt
          obtain ⟨d, hd⟩ : ∃ z, z = (evsOf ev).To j - (evsOf ev).F j := ⟨_, rfl⟩
          have x1 : IntKind.i64.wrap ((evsOf ev).To j - (evsOf ev).F j) = d := by rw [← hd, IntKind.wrap_i64]; omega
          have HLO' : Hid (max lo d = mx (fun k => (evsOf ev).To k - (evsOf ev).F k) j') := by show _ = _; rw [hi', mx_max, ← HLO.out, ← hd]
          clear hi' hte hd hlt
          go_wp2_with fail
          go_roundw
          case rel => exact ⟨j', _, HI', rfl, rfl, HLO', by have := HWj.out; (repeat' (first | assumption | exact Below.refl _ _ | exact Below.size (by assumption) | (refine Below.setCell ?_ ?_ _) | (refine Below.alloc ?_ ?_ _) | (refine Below.drew ?_) | (refine below_drewN ?_ _) | (refine Below.trans ?_ (Below.mono ‹Below _ _ _› ?_)) | omega | (simp; done) | (simp; omega) | (simp at *; omega)))⟩
          case measure => exact HMS.out
        · have T0 : decide ((j : Int) < (q : Int)) = false := by simp <;> omega
          have T0' : decide (j < q) = false := decide_eq_false hlt
          have hin : j = q := by have := Hj.out; omega

          subst hin
          clear hlt
          have HLX : Hid (lo = lonS ev) := by show lo = mx _ ev.length; rw [← HQL.out]; exact HLO.out
          obtain rfl : lo = lonS ev := HLX.out
          clear HLO HLX
          have HQj := Lib.hid (HQ6.out.call HWj.out)
          have HEj := Lib.hid (HE.out.below HWWj.out)
          go_upto_region 24 with fail
          have L1 : Hid (∀ g c w, Env5 w → Blk w g 20 #[.iface 9 (.string (D.Nm i)), .iface 9 (.string ⟨#[101, 118, 101, 110, 116, 115]⟩), .iface 3 (.int .i64 (j : Int))] → Calls Tryz.prog 49 #[.slice (some ⟨g, 0, none⟩) 3 c] w fun e w' => e = .returned (.string (ln3 (D.Nm i) wEvs (j : Int))) ∧ Below w.heap.size w w') := fun g c w hE hB => tline3 (D.Nm i) wEvs (j : Int) (by have := HSZ.out; omega) (by decide) (by have := HNB.out; omega) g c _ w hE hB
          have L2 : Hid (∀ g c w, Env5 w → Blk w g 20 #[.iface 9 (.string (D.Nm i)), .iface 9 (.string ⟨#[118, 111, 108, 117, 109, 101]⟩), .iface 3 (.int .i64 tt)] → Calls Tryz.prog 49 #[.slice (some ⟨g, 0, none⟩) 3 c] w fun e w' => e = .returned (.string (ln3 (D.Nm i) wVol tt)) ∧ Below w.heap.size w w') := fun g c w hE hB => tline3 (D.Nm i) wVol tt (by have := HSZ.out; omega) (by decide) (by have := HNB.out; omega) g c _ w hE hB
          have L3 : Hid (∀ g c w, Env5 w → Blk w g 20 #[.iface 9 (.string (D.Nm i)), .iface 9 (.string ⟨#[108, 111, 110, 103, 101, 115, 116]⟩), .iface 3 (.int .i64 ls)] → Calls Tryz.prog 49 #[.slice (some ⟨g, 0, none⟩) 3 c] w fun e w' => e = .returned (.string (ln3 (D.Nm i) wLon ls)) ∧ Below w.heap.size w w') := fun g c w hE hB => tline3 (D.Nm i) wLon ls (by have := HSZ.out; omega) (by decide) (by have := HNB.out; omega) g c _ w hE hB
          have HLEN : Hid (N + 3 = (R ++ [ln3 (D.Nm i) wEvs (j : Int), ln3 (D.Nm i) wVol tt, ln3 (D.Nm i) wLon ls]).length) := by show _ = _; rw [List.length_append, HN.out]; rfl
          generalize hl1 : ln3 (D.Nm i) wEvs (j : Int) = l1 at L1 HRE HLEN
          generalize hl2 : ln3 (D.Nm i) wVol tt = l2 at L2 HRE HLEN
          generalize hl3 : ln3 (D.Nm i) wLon ls = l3 at L3 HRE HLEN
          generalize lonS ev = lon at x9 ⊢
          clear hl1 hl2 hl3 HSZ HNB HE6 HQ6 HBG6 HB6
          have q0' : wr.cell? ⟨G, 0, none⟩ = some (.string (D.Nm i)) := HBGj.out.cell 0
          go_region_held3 (fun w' => w'.cell? ⟨G, 0, none⟩ = some (.string (D.Nm i))) (first
            | exact q0'
            | exact y0
            | exact (HBGj.out.call (by (repeat' (first | assumption | exact Below.refl _ _ | exact Below.size (by assumption) | (refine Below.setCell ?_ ?_ _) | (refine Below.alloc ?_ ?_ _) | (refine Below.drew ?_) | (refine below_drewN ?_ _) | (refine Below.trans ?_ (Below.mono ‹Below _ _ _› ?_)) | omega | (simp; done) | (simp; omega) | (simp at *; omega))))).cell 0) (first
            | (fail_if_success (clear hq7)
               go_at_call 49
               with_reducible refine (L1.out _ _ _ ?_ ?_).mono ?_
               focus (exact HEj.out.below (by (repeat' (first | assumption | exact Below.refl _ _ | exact Below.size (by assumption) | (refine Below.setCell ?_ ?_ _) | (refine Below.alloc ?_ ?_ _) | (refine Below.drew ?_) | (refine below_drewN ?_ _) | (refine Below.trans ?_ (Below.mono ‹Below _ _ _› ?_)) | omega | (simp; done) | (simp; omega) | (simp at *; omega)))))
               focus ((try with_reducible refine Blk.drew1 ?_); (first | with_reducible exact Blk.new _ _ _ | with_reducible exact (blk_two _ _ _ _ _).1 | with_reducible exact (blk_two _ _ _ _ _).2 | with_reducible exact Blk.alloc (blk_two _ _ _ _ _).1 _ | with_reducible exact Blk.alloc (blk_two _ _ _ _ _).2 _ | with_reducible exact blk_thr _ _ _ _ _ _ _))
               rintro e w7 ⟨rfl, hb7⟩
               have hq7 : Below wr.heap.size wr w7 := Below.trans (by (repeat' (first | assumption | exact Below.refl _ _ | exact Below.size (by assumption) | (refine Below.setCell ?_ ?_ _) | (refine Below.alloc ?_ ?_ _) | (refine Below.drew ?_) | (refine below_drewN ?_ _) | (refine Below.trans ?_ (Below.mono ‹Below _ _ _› ?_)) | omega | (simp; done) | (simp; omega) | (simp at *; omega)))) (hb7.mono (by simp <;> omega))
               have hs7 := hq7.size)
            | (fail_if_success (clear hq8)
               go_at_call 49
               with_reducible refine (L2.out _ _ _ ?_ ?_).mono ?_
               focus (exact HEj.out.below (by (repeat' (first | assumption | exact Below.refl _ _ | exact Below.size (by assumption) | (refine Below.setCell ?_ ?_ _) | (refine Below.alloc ?_ ?_ _) | (refine Below.drew ?_) | (refine below_drewN ?_ _) | (refine Below.trans ?_ (Below.mono ‹Below _ _ _› ?_)) | omega | (simp; done) | (simp; omega) | (simp at *; omega)))))
               focus (first | (with_reducible refine Blk.call ?_ hb7; (try with_reducible refine Blk.drew1 ?_); (first | with_reducible exact Blk.new _ _ _ | with_reducible exact (blk_two _ _ _ _ _).1 | with_reducible exact (blk_two _ _ _ _ _).2 | with_reducible exact Blk.alloc (blk_two _ _ _ _ _).1 _ | with_reducible exact Blk.alloc (blk_two _ _ _ _ _).2 _ | with_reducible exact blk_thr _ _ _ _ _ _ _)) | (with_reducible refine Blk.alloc ?_ _; with_reducible refine Blk.call ?_ hb7; (try with_reducible refine Blk.drew1 ?_); (first | with_reducible exact Blk.new _ _ _ | with_reducible exact (blk_two _ _ _ _ _).1 | with_reducible exact (blk_two _ _ _ _ _).2 | with_reducible exact Blk.alloc (blk_two _ _ _ _ _).1 _ | with_reducible exact Blk.alloc (blk_two _ _ _ _ _).2 _ | with_reducible exact blk_thr _ _ _ _ _ _ _)) | ((try with_reducible refine Blk.drew1 ?_); (first | with_reducible exact Blk.new _ _ _ | with_reducible exact (blk_two _ _ _ _ _).1 | with_reducible exact (blk_two _ _ _ _ _).2 | with_reducible exact Blk.alloc (blk_two _ _ _ _ _).1 _ | with_reducible exact Blk.alloc (blk_two _ _ _ _ _).2 _ | with_reducible exact blk_thr _ _ _ _ _ _ _)))
               rintro e w8 ⟨rfl, hb8⟩
               have hq8 : Below wr.heap.size wr w8 := Below.trans (by (repeat' (first | assumption | exact Below.refl _ _ | exact Below.size (by assumption) | (refine Below.setCell ?_ ?_ _) | (refine Below.alloc ?_ ?_ _) | (refine Below.drew ?_) | (refine below_drewN ?_ _) | (refine Below.trans ?_ (Below.mono ‹Below _ _ _› ?_)) | omega | (simp; done) | (simp; omega) | (simp at *; omega)))) (hb8.mono (Nat.le_trans hq7.size (by simp <;> omega)))
               have hs8 := hq8.size)
            | (go_at_call 49
               with_reducible refine (L3.out _ _ _ ?_ ?_).mono ?_
               focus (exact HEj.out.below (by (repeat' (first | assumption | exact Below.refl _ _ | exact Below.size (by assumption) | (refine Below.setCell ?_ ?_ _) | (refine Below.alloc ?_ ?_ _) | (refine Below.drew ?_) | (refine below_drewN ?_ _) | (refine Below.trans ?_ (Below.mono ‹Below _ _ _› ?_)) | omega | (simp; done) | (simp; omega) | (simp at *; omega)))))
               focus (first | (with_reducible refine Blk.call ?_ hb8; (try with_reducible refine Blk.drew1 ?_); (first | with_reducible exact Blk.new _ _ _ | with_reducible exact (blk_two _ _ _ _ _).1 | with_reducible exact (blk_two _ _ _ _ _).2 | (with_reducible refine Blk.call ?_ hb7; (try with_reducible refine Blk.drew1 ?_); (first | with_reducible exact Blk.new _ _ _ | with_reducible exact (blk_two _ _ _ _ _).1 | with_reducible exact (blk_two _ _ _ _ _).2 | with_reducible exact Blk.alloc (blk_two _ _ _ _ _).1 _ | with_reducible exact Blk.alloc (blk_two _ _ _ _ _).2 _ | with_reducible exact blk_thr _ _ _ _ _ _ _)) | (with_reducible refine Blk.alloc ?_ _; with_reducible refine Blk.call ?_ hb7; (try with_reducible refine Blk.drew1 ?_); (first | with_reducible exact Blk.new _ _ _ | with_reducible exact (blk_two _ _ _ _ _).1 | with_reducible exact (blk_two _ _ _ _ _).2 | with_reducible exact Blk.alloc (blk_two _ _ _ _ _).1 _ | with_reducible exact Blk.alloc (blk_two _ _ _ _ _).2 _ | with_reducible exact blk_thr _ _ _ _ _ _ _))))  | ((try with_reducible refine Blk.drew1 ?_); (first | with_reducible exact Blk.new _ _ _ | with_reducible exact (blk_two _ _ _ _ _).1 | with_reducible exact (blk_two _ _ _ _ _).2 | with_reducible exact Blk.alloc (blk_two _ _ _ _ _).1 _ | with_reducible exact Blk.alloc (blk_two _ _ _ _ _).2 _ | with_reducible exact blk_thr _ _ _ _ _ _ _)))
               rintro e w9 ⟨rfl, hb9⟩
               have hq9 : Below wr.heap.size wr w9 := Below.trans (by (repeat' (first | assumption | exact Below.refl _ _ | exact Below.size (by assumption) | (refine Below.setCell ?_ ?_ _) | (refine Below.alloc ?_ ?_ _) | (refine Below.drew ?_) | (refine below_drewN ?_ _) | (refine Below.trans ?_ (Below.mono ‹Below _ _ _› ?_)) | omega | (simp; done) | (simp; omega) | (simp at *; omega)))) (hb9.mono (Nat.le_trans hq8.size (by simp <;> omega)))
               have hs9 := hq9.size
               have HQ9 := Lib.hid (HQj.out.call hq9)
               have HBG9 := Lib.hid (HBGj.out.call hq9))
            | ((refine step_append_lies _ (by rfl) _ _ _ (by rfl) w1.heap.size 9 SI0 (.string ByteArray.empty) 1 16 Tryz.underlying27 SI1.out SI2.out SI3.out SI4.out rfl (by omega) (.slice A8 N cap8) (N) (sc R) (by rfl) (HQ9.out.1.alloc _) ⟨w9.heap.size, 0, none⟩ 3 3 [.string l1, .string l2, .string l3] (by rfl) (by rfl) (World.news_of_block (cs := #[.string l1, .string l2, .string l3]) (t := 9) (fr := (0, 0)) (heap_alloc_new w9 _)) (by simp [Value.oneCell']) (by omega) (h63_3 HN2.out) (hby_3 HN2.out) (base_alloc1 HQ9.out.2.size _) (w9.heap.size + 1) (by simp) ?_
                intro gg capg wA hownA hgrowA hatA hltA
                have HM8 := Lib.hid (HQ9.out.app3 hownA hgrowA)
                have y0 := (blk_app HBG9.out HQ9.out (by decide) hgrowA).cell 0
                clear hownA hgrowA hatA hltA)))
          all_goals (go_wp2_with fail; go_roundw; (case rel => exact ⟨i', N + 3, _, HI', rfl, HRE.out.symm, HLEN, HM8⟩); (case measure => exact HMS.out))
    · have T0 : decide ((i : Int) < (n : Int)) = false := by simp <;> omega
      have T0' : decide (i < n) = false := decide_eq_false hlt
      have hin : i = n := by have := Hi.out; omega

      have HIN := Lib.hid hin
      clear hin hlt d0 d1
      go_wp2_with fail
      go_ret2
      exact HQ.out.lin H1.out HN.out HN2.out (.inr (.inr ⟨HG.out, HSC.out, by rw [HR.out, HIN.out], rfl⟩))
end Go.Proofs.YtfgakaielfekoaaGreatDoor

/- Nodes of package reports. -/
import Derived.Test.YtfgakaielfekoaaGreatDoorTnp
namespace Go.Proofs.YtfgakaielfekoaaGreatDoor
open Go.RowKit
set_option linter.unusedVariables false
set_option linter.unusedSimpArgs false

set_option maxRecDepth 100000 in
set_option maxHeartbeats 16000000 in
theorem tNodes (NA LA : Option Addr) (n nc m lc : Nat) (D : Nds) (K : Lks) (hz : NetSz D n K m) (A : Option Addr) (s c : Nat) (S : Sts) (h20 : s ≤ 20) (h14 : n ≤ 14) (hnm : ∀ i, i < n → (D.Nm i).size ≤ 60) (hs : ∀ k, k < s → S.VN k ≤ 2000 ∧ S.PN k ≤ 2000 ∧ S.SN k ≤ 2000 ∧ S.ON k ≤ 2000) (w : World) (hE : Env5 w) (hD : NdIn w NA n D) (hK : LkIn w LA m K) (ht : StIn w A s S) :
    Calls Tryz.prog 18 #[.agg #[.slice NA n nc, .slice LA m lc], .slice A s c] w (LinPost w (NodesIs D n K m S s)) := by
  have HE := Lib.hid hE
  have HD := Lib.hid hD
  have HK := Lib.hid hK
  have HT := Lib.hid ht
  have H20 := Lib.hid h20
  have H14 := Lib.hid h14
  have HNM := Lib.hid hnm
  have H0 : Hid (Below w.heap.size w (w.alloc (Obj.cells #[.slice NA n nc, .slice LA m lc] 25))) := (Below.refl _ w).alloc (Nat.le_refl _) _
  have HB0 := Lib.hid (Blk.new w 25 #[.slice NA n nc, .slice LA m lc])
  have ss := fun w hD hK ht => tstates NA LA n nc m lc D K hz A s c S (by omega) hs w hD hK ht
  by_cases g0 : stsP D n K m S s
  case neg =>
    rw [boolOf_false g0] at ss
    have SS := Lib.hid ss
    have HR : Hid (NodesIs D n K m S s [] 1) := .inl ⟨g0, rfl, rfl⟩
    clear ss g0 hz hE h20 h14 hnm hs hD hK ht
    go_enter Tryz.func18, Tryz.ntmps18
    go_wp2_with (first
      | (go_at_call 62
         with_reducible refine (SS.out _ ?_ ?_ ?_).mono ?_
         focus (exact HD.out.below (Nat.le_refl _) H0.out)
         focus (exact HK.out.below (Nat.le_refl _) H0.out)
         focus (exact HT.out.below (Nat.le_refl _) H0.out)
         rintro e w1 ⟨rfl, hb1⟩
         have H1 := Lib.hid (below_step H0.out hb1)
         have HB1 := Lib.hid (HB0.out.call hb1)
         obtain ⟨d0, d1⟩ := blk2 HB1.out
         clear hb1))
    go_ret2
    exact lin_nil HR.out H1.out
  rw [boolOf_true g0] at ss
  have SS := Lib.hid ss
  by_cases g1 : s = 0
  case pos =>
    have HR : Hid (NodesIs D n K m S s [] 14) := .inr (.inl ⟨g0, g1, rfl, rfl⟩)
    have t1 : ((s : Int) == 0) = true := by simp; omega
    have t1' : (s == 0) = true := by simpa using g1
    clear ss g0 g1 hz hE h20 h14 hnm hs hD hK ht
    go_enter Tryz.func18, Tryz.ntmps18
    go_wp2_with (first
      | (go_at_call 62
         with_reducible refine (SS.out _ ?_ ?_ ?_).mono ?_
         focus (exact HD.out.below (Nat.le_refl _) H0.out)
         focus (exact HK.out.below (Nat.le_refl _) H0.out)
         focus (exact HT.out.below (Nat.le_refl _) H0.out)
         rintro e w1 ⟨rfl, hb1⟩
         have H1 := Lib.hid (below_step H0.out hb1)
         have HB1 := Lib.hid (HB0.out.call hb1)
         obtain ⟨d0, d1⟩ := blk2 HB1.out
         clear hb1))
    go_ret2
    exact lin_nil HR.out H1.out
  have t1 : ((s : Int) == 0) = false := by simp; omega
  have t1' : (s == 0) = false := by simpa using g1
  have t2 : decide ((10000 : Int) < (s : Int)) = false := decide_eq_false (by omega)
  have t2' : decide (10000 < s) = false := decide_eq_false (by omega)
  have HG := Lib.hid g0
  have HS1 : Hid (1 ≤ s) := by show 1 ≤ s; omega
  obtain ⟨SI0, si0, sz0, sz1, sz2⟩ := info_parts1 infoS
  have SI1 := Lib.hid si0
  have SI2 := Lib.hid sz0
  have SI3 := Lib.hid sz1
  have SI4 := Lib.hid sz2
  clear si0 sz0 sz1 sz2

  clear ss g0 g1 hz hE h20 h14 hnm hs hD hK ht
  go_enter Tryz.func18, Tryz.ntmps18
  go_wp2_with (first
    | (go_at_call 62
       with_reducible refine (SS.out _ ?_ ?_ ?_).mono ?_
       focus (exact HD.out.below (Nat.le_refl _) H0.out)
       focus (exact HK.out.below (Nat.le_refl _) H0.out)
       focus (exact HT.out.below (Nat.le_refl _) H0.out)
       rintro e w1 ⟨rfl, hb1⟩
       have H1 := Lib.hid (below_step H0.out hb1)
       have HB1 := Lib.hid (HB0.out.call hb1)
       obtain ⟨d0, d1⟩ := blk2 HB1.out
       clear hb1))
  clear d0 d1
  generalize hgw : w.heap.size = gw at HB1
  clear HB0 H0
  go_loopw [6, 31] (fun u v wr => ∃ (i N : Nat) (R : List ByteArray), Hid (i ≤ n) ∧ v = .int .i64 i ∧ Hid (R = nout D S s i) ∧ Hid (N = R.length) ∧ Hid (RMem5 w1 wr u N R)) (fun _ v _ => n - (RowKit.intOf v).toNat)
  case atStart => exact ⟨0, 0, [], Nat.zero_le _, rfl, rfl, rfl, World.ownsRow_nil _ _ _ _, Below.refl _ _⟩
  case round =>
    obtain ⟨i, N, R, Hi, rfl, HR, HN, HQ⟩ := hrel
    obtain ⟨A8, cap8, h8⟩ := HQ.out.form
    subst h8
    have HWr : Hid (Below w.heap.size w wr) := below_step H1.out HQ.out.2
    have HN2 : Hid (N ≤ 2000) := by show N ≤ 2000; rw [HN.out, HR.out, nout_len]; have := Hi.out; have := H14.out; omega
    have HBr := Lib.hid (HB1.out.call HQ.out.2)
    obtain ⟨d0, d1⟩ := blk2 HBr.out
    by_cases hlt : i < n
    · have T0 : decide ((i : Int) < (n : Int)) = true := by simp <;> omega
      have T0' : decide (i < n) = true := decide_eq_true hlt
      obtain ⟨i', hi'⟩ : ∃ z, z = i + 1 := ⟨_, rfl⟩
      have x0 : IntKind.i64.wrap ((i : Int) + 1) = (i' : Int) := by have := H14.out; rw [IntKind.wrap_i64]; omega
      have HI' : Hid (i' ≤ n) := by show i' ≤ n; omega
      have HMS : Hid (n - (RowKit.intOf (Value.int .i64 (i' : Int))).toNat < n - (RowKit.intOf (Value.int .i64 (i : Int))).toNat) := by show _ < _; simp [RowKit.intOf]; omega
      have k0 : (0 : Int) ≤ (i : Int) := by omega
      have k1 : (i : Int) < (n : Int) := by omega

      obtain ⟨b, off, rfl, hb, hC, htab⟩ := (HD.out.below (Nat.le_refl _) HWr.out).at hlt
      have c0 := hC 0 _ rfl
      have c1 := hC 1 _ rfl
      have c2 := hC 2 _ rfl
      have c3 := hC 3 _ rfl
      have c4 := hC 4 _ rfl
      have c5 := hC 5 _ rfl
      have c6 := hC 6 _ rfl
      have c7 := hC 7 _ rfl
      have c8 := hC 8 _ rfl
      simp only [Nat.add_zero] at c0
      have HND := Lib.hid (HG.out.node hlt)
      have hsz := HNM.out i hlt
      have HSZ := Lib.hid hsz
      have HLT := Lib.hid hlt
      have HTB := Lib.hid htab
      have HR' : Hid (nout D S s i' = R ++ [ln3 (D.Nm i) wLv (lvF D i (mxV S s i)), ln3 (D.Nm i) wPd (mxP S s i)]) := by show _ = _; rw [hi', HR.out]; rfl
      have hmv : 0 ≤ mxV S s i ∧ mxV S s i ≤ 1125899906842624 := ⟨mx_nn _ _, mx_le (by omega) fun k hk => by have h1 := (HG.out.vol hk hlt).1; have h2 := HND.out.lv.2.2; omega⟩
      have hmp : 0 ≤ mxP S s i ∧ mxP S s i ≤ 1125899906842624 := ⟨mx_nn _ _, mx_le (by omega) fun k hk => (HG.out.vol hk hlt).2.1.2⟩
      have HMV := Lib.hid hmv
      have HMP := Lib.hid hmp
      have hlv := lv_bd HND.out hmv.1
      have HLV := Lib.hid hlv
      have sl := fun w ht => sLevel (D.Nm i) (D.Kd i) (D.Ax i) (D.Ay i) (D.Iv i) (D.Gd i) (D.SA i) (D.SN i) (D.SC i) (D.SX i) (D.SY i) (D.Pt i) (D.Rs i) (mxV S s i) (by unfold maxLen; omega) HND.out hmv w ht
      have SL : Hid (∀ w, TabIn w (D.SA i) (D.SN i) (D.SX i) (D.SY i) → Calls Tryz.prog 30 #[.agg #[.string (D.Nm i), .int .i64 (D.Kd i), .int .i64 (D.Ax i), .int .i64 (D.Ay i), .int .i64 (D.Iv i), .int .i64 (D.Gd i), .slice (D.SA i) (D.SN i) (D.SC i), .bool (D.Pt i), .int .i64 (D.Rs i)], .int .i64 (mxV S s i)] w fun e w' => e = .returned (.tuple #[.int .i64 (lvF D i (mxV S s i)), .int .i64 0]) ∧ Below w.heap.size w w') := fun w ht => sl w ht
      clear hi' hC htab hsz hlt hmv hmp hlv sl
      go_upto_region 11 with fail
      have hal : Below wr.heap.size wr (wr.alloc (Obj.cells #[.string (D.Nm i), .int .i64 (D.Kd i), .int .i64 (D.Ax i), .int .i64 (D.Ay i), .int .i64 (D.Iv i), .int .i64 (D.Gd i), .slice (D.SA i) (D.SN i) (D.SC i), .bool (D.Pt i), .int .i64 (D.Rs i)] 65)) := (Below.refl _ wr).alloc (Nat.le_refl _) _
      have HBG := Lib.hid (Blk.new wr 65 #[.string (D.Nm i), .int .i64 (D.Kd i), .int .i64 (D.Ax i), .int .i64 (D.Ay i), .int .i64 (D.Iv i), .int .i64 (D.Gd i), .slice (D.SA i) (D.SN i) (D.SC i), .bool (D.Pt i), .int .i64 (D.Rs i)])
      have HQ4 := Lib.hid (HQ.out.call hal)
      have HW4 := Lib.hid (below_step HWr.out hal)
      have HB4 := Lib.hid (HBr.out.call hal)
      have HTB4 := Lib.hid (HTB.out.below (Nat.le_refl _) hal)
      clear hal d0 d1 c0 c1 c2 c3 c4 c5 c6 c7 c8 hb
      generalize wr.alloc (Obj.cells #[.string (D.Nm i), .int .i64 (D.Kd i), .int .i64 (D.Ax i), .int .i64 (D.Ay i), .int .i64 (D.Iv i), .int .i64 (D.Gd i), .slice (D.SA i) (D.SN i) (D.SC i), .bool (D.Pt i), .int .i64 (D.Rs i)] 65) = w4 at HBG HQ4 HW4 HB4 HTB4 ⊢
      generalize wr.heap.size = G at HBG ⊢
      clear HQ HWr HBr
      go_wp2_with fail
      obtain ⟨w0, rfl⟩ : ∃ w0 : World, w0 = wr := ⟨_, rfl⟩
      go_loopw [9, 10, 38] (fun a b u wr => ∃ (j : Nat) (va pa : Int), Hid (j ≤ s) ∧ u = .int .i64 j ∧ a = .int .i64 va ∧ b = .int .i64 pa ∧ Hid (va = mx (fun k => S.V k i) j) ∧ Hid (pa = mx (fun k => S.P k i) j) ∧ Hid (Below w4.heap.size w4 wr)) (fun _ _ u _ => s - (RowKit.intOf u).toNat)
      case atStart => exact ⟨0, 0, 0, Nat.zero_le _, rfl, rfl, rfl, rfl, rfl, Below.refl _ _⟩
      case round =>
        obtain ⟨j, va, pa, Hj, rfl, rfl, rfl, HVA, HPA, HWj⟩ := hrel
        have HWWj := Lib.hid (below_step HW4.out HWj.out)
        have HBGj := Lib.hid (HBG.out.call HWj.out)
        obtain ⟨q0, q1, q2, q3, q4, q5, q6, q7, q8⟩ := blk9 HBGj.out
        by_cases hlt : j < s
        · have T0 : decide ((j : Int) < (s : Int)) = true := by simp <;> omega
          have T0' : decide (j < s) = true := decide_eq_true hlt
          obtain ⟨j', hi'⟩ : ∃ z, z = j + 1 := ⟨_, rfl⟩
          have x0 : IntKind.i64.wrap ((j : Int) + 1) = (j' : Int) := by have := H20.out; rw [IntKind.wrap_i64]; omega
          have HI' : Hid (j' ≤ s) := by show j' ≤ s; omega
          have HMS : Hid (s - (RowKit.intOf (Value.int .i64 (j' : Int))).toNat < s - (RowKit.intOf (Value.int .i64 (j : Int))).toNat) := by show _ < _; simp [RowKit.intOf]; omega
          have k0 : (0 : Int) ≤ (j : Int) := by omega
          have k1 : (j : Int) < (s : Int) := by omega

          obtain ⟨bs, os, rfl, hbs, hC, hL⟩ := (HT.out.below (Nat.le_refl _) HWWj.out).at hlt
          have hvp := HG.out.vol hlt HLT.out
          obtain ⟨bv, ov, hA1, hbv, cv⟩ := hL.1.at hvp.2.2.1
          obtain ⟨bp, op, hA2, hbp, cp⟩ := hL.2.1.at hvp.2.2.2
          have c0 := hC 0 _ rfl
          have c1 := hC 1 _ rfl
          have c2 := hC 2 _ rfl
          have c3 := hC 3 _ rfl
          simp only [Nat.add_zero] at c0
          rw [hA1] at c0
          rw [hA2] at c1
          have k2 : (0 : Int) ≤ (i : Int) := by omega
          have k3 : (i : Int) < (S.VN j : Int) := by omega
          have k4 : (i : Int) < (S.PN j : Int) := by omega
          have k5 : i < S.VN j := hvp.2.2.1
          have k6 : i < S.PN j := hvp.2.2.2
          have HVA' : Hid (max va (S.V j i) = mx (fun k => S.V k i) j') := by show _ = _; rw [hi', mx_max, ← HVA.out]
          have HPA' : Hid (max pa (S.P j i) = mx (fun k => S.P k i) j') := by show _ = _; rw [hi', mx_max, ← HPA.out]
          clear hi' hC hL hvp hA1 hA2 hlt
          go_upto_region 15 with fail
          have hal : Below wr.heap.size wr (wr.alloc (Obj.cells #[.slice (some ⟨bv, ov, none⟩) (S.VN j) (S.VC j), .slice (some ⟨bp, op, none⟩) (S.PN j) (S.PC j), .slice (S.SA j) (S.SN j) (S.SC j), .slice (S.OA j) (S.ON j) (S.OC j)] 49)) := (Below.refl _ wr).alloc (Nat.le_refl _) _
          have HBS := Lib.hid (Blk.new wr 49 #[.slice (some ⟨bv, ov, none⟩) (S.VN j) (S.VC j), .slice (some ⟨bp, op, none⟩) (S.PN j) (S.PC j), .slice (S.SA j) (S.SN j) (S.SC j), .slice (S.OA j) (S.ON j) (S.OC j)])
          have HW5 := Lib.hid (below_step HWj.out hal)
          have cv4 := (hal.cell (p := ⟨bv, ov + i, none⟩) hbv).trans cv
          have cp4 := (hal.cell (p := ⟨bp, op + i, none⟩) hbp).trans cp
          clear hal c0 c1 c2 c3 cv cp hbv hbp hbs q0 q1 q2 q3 q4 q5 q6 q7 q8
          generalize wr.alloc (Obj.cells #[.slice (some ⟨bv, ov, none⟩) (S.VN j) (S.VC j), .slice (some ⟨bp, op, none⟩) (S.PN j) (S.PC j), .slice (S.SA j) (S.SN j) (S.SC j), .slice (S.OA j) (S.ON j) (S.OC j)] 49) = w5 at HBS HW5 cv4 cp4 ⊢
          generalize wr.heap.size = GS at HBS ⊢
          obtain ⟨s0, s1, s2, s3⟩ := blk4 HBS.out
          go_quiet (fail)
          go_wp2_with fail
          go_roundw
          case rel => exact ⟨j', _, _, HI', rfl, rfl, rfl, HVA', HPA', below_drewN HW5.out _⟩
          case measure => exact HMS.out
        · have T0 : decide ((j : Int) < (s : Int)) = false := by simp <;> omega
          have T0' : decide (j < s) = false := decide_eq_false hlt
          have hin : j = s := by have := Hj.out; omega

          subst hin
          clear hlt
          have HVX : Hid (va = mxV S j i) := HVA
          have HPX : Hid (pa = mxP S j i) := HPA
          obtain rfl : va = mxV S j i := HVX.out
          obtain rfl : pa = mxP S j i := HPX.out
          clear HVA HPA HVX HPX
          have HQj := Lib.hid (HQ4.out.call HWj.out)
          have HTBj := Lib.hid (HTB4.out.below (Nat.le_refl _) HWj.out)
          go_upto_region 20 with (first
            | (go_at_call 30
               with_reducible refine (SL.out _ ?_).mono ?_
               focus (exact HTBj.out)
               rintro e w5 ⟨rfl, hb5⟩
               have HQ5 := Lib.hid (HQj.out.call hb5)
               have HBG5 := Lib.hid (HBGj.out.call hb5)
               have HE5 := Lib.hid (HE.out.below (below_step HWWj.out hb5))
               clear hb5))
          clear q0 q1 q2 q3 q4 q5 q6 q7 q8
          generalize lvF D i (mxV S j i) = lv at HLV HR' ⊢
          generalize mxP S j i = pm at HMP HR' ⊢
          have L1 : Hid (∀ g c w, Env5 w → Blk w g 20 #[.iface 9 (.string (D.Nm i)), .iface 9 (.string ⟨#[108, 101, 118, 101, 108]⟩), .iface 3 (.int .i64 lv)] → Calls Tryz.prog 49 #[.slice (some ⟨g, 0, none⟩) 3 c] w fun e w' => e = .returned (.string (ln3 (D.Nm i) wLv lv)) ∧ Below w.heap.size w w') := fun g c w hE hB => tline3 (D.Nm i) wLv lv (by have := HSZ.out; omega) (by decide) (by have := HLV.out; omega) g c _ w hE hB
          have L2 : Hid (∀ g c w, Env5 w → Blk w g 20 #[.iface 9 (.string (D.Nm i)), .iface 9 (.string ⟨#[112, 111, 110, 100, 101, 100]⟩), .iface 3 (.int .i64 pm)] → Calls Tryz.prog 49 #[.slice (some ⟨g, 0, none⟩) 3 c] w fun e w' => e = .returned (.string (ln3 (D.Nm i) wPd pm)) ∧ Below w.heap.size w w') := fun g c w hE hB => tline3 (D.Nm i) wPd pm (by have := HSZ.out; omega) (by decide) (by have := HMP.out; omega) g c _ w hE hB
          have q0 := HBG5.out.cell 0
          have HLEN : Hid (N + 2 = (R ++ [ln3 (D.Nm i) wLv lv, ln3 (D.Nm i) wPd pm]).length) := by show _ = _; rw [List.length_append, HN.out]; rfl
          generalize hl1 : ln3 (D.Nm i) wLv lv = l1 at L1 HR' HLEN
          generalize hl2 : ln3 (D.Nm i) wPd pm = l2 at L2 HR' HLEN
          clear hl1 hl2 HSZ HLV HMP HMV SL HQj HTBj HTB4 HQ4 HBGj HTB
          have q0' : w5.cell? ⟨G, 0, none⟩ = some (.string (D.Nm i)) := q0
          clear q0
          go_region_held3 (fun w' => w'.cell? ⟨G, 0, none⟩ = some (.string (D.Nm i))) (first
            | exact q0'
            | exact y0
            | exact (HBG5.out.call (by (repeat' (first | assumption | exact Below.refl _ _ | exact Below.size (by assumption) | (refine Below.setCell ?_ ?_ _) | (refine Below.alloc ?_ ?_ _) | (refine Below.drew ?_) | (refine below_drewN ?_ _) | (refine Below.trans ?_ (Below.mono ‹Below _ _ _› ?_)) | omega | (simp; done) | (simp; omega) | (simp at *; omega))))).cell 0) (first
            | (go_at_call 49
               with_reducible refine (L1.out _ _ _ ?_ ?_).mono ?_
               focus (exact HE5.out.below (by (repeat' (first | assumption | exact Below.refl _ _ | exact Below.size (by assumption) | (refine Below.setCell ?_ ?_ _) | (refine Below.alloc ?_ ?_ _) | (refine Below.drew ?_) | (refine below_drewN ?_ _) | (refine Below.trans ?_ (Below.mono ‹Below _ _ _› ?_)) | omega | (simp; done) | (simp; omega) | (simp at *; omega)))))
               focus (first | exact Blk.new _ _ _ | exact (blk_two _ _ _ _ _).1 | exact (blk_two _ _ _ _ _).2 | exact Blk.alloc (blk_two _ _ _ _ _).1 _ | exact Blk.alloc (blk_two _ _ _ _ _).2 _ | exact blk_thr _ _ _ _ _ _ _)
               rintro e w6 ⟨rfl, hb6⟩
               have hq6 : Below w5.heap.size w5 w6 := Below.trans (by (repeat' (first | assumption | exact Below.refl _ _ | exact Below.size (by assumption) | (refine Below.setCell ?_ ?_ _) | (refine Below.alloc ?_ ?_ _) | (refine Below.drew ?_) | (refine below_drewN ?_ _) | (refine Below.trans ?_ (Below.mono ‹Below _ _ _› ?_)) | omega | (simp; done) | (simp; omega) | (simp at *; omega)))) (hb6.mono (by simp <;> omega)))
            | (go_at_call 49
               with_reducible refine (L2.out _ _ _ ?_ ?_).mono ?_
               focus (exact HE5.out.below (by (repeat' (first | assumption | exact Below.refl _ _ | exact Below.size (by assumption) | (refine Below.setCell ?_ ?_ _) | (refine Below.alloc ?_ ?_ _) | (refine Below.drew ?_) | (refine below_drewN ?_ _) | (refine Below.trans ?_ (Below.mono ‹Below _ _ _› ?_)) | omega | (simp; done) | (simp; omega) | (simp at *; omega)))))
               focus (first | exact Blk.new _ _ _ | exact (blk_two _ _ _ _ _).1 | exact (blk_two _ _ _ _ _).2 | exact Blk.alloc (blk_two _ _ _ _ _).1 _ | exact Blk.alloc (blk_two _ _ _ _ _).2 _ | exact blk_thr _ _ _ _ _ _ _ | exact (Blk.below (Blk.drew1 (Blk.new _ _ _)) hb6 (by first | (simp; done) | (simp; omega))) | exact (Blk.below (Blk.drew1 ((blk_two _ _ _ _ _).1)) hb6 (by first | (simp; done) | (simp; omega))) | exact (Blk.below (Blk.drew1 ((blk_two _ _ _ _ _).2)) hb6 (by first | (simp; done) | (simp; omega))) | exact (Blk.below (Blk.drew1 (Blk.alloc (blk_two _ _ _ _ _).1 _)) hb6 (by first | (simp; done) | (simp; omega))) | exact (Blk.below (Blk.drew1 (Blk.alloc (blk_two _ _ _ _ _).2 _)) hb6 (by first | (simp; done) | (simp; omega))) | exact (Blk.below (Blk.drew1 (blk_thr _ _ _ _ _ _ _)) hb6 (by first | (simp; done) | (simp; omega))) | exact Blk.alloc (Blk.below (Blk.drew1 (Blk.new _ _ _)) hb6 (by first | (simp; done) | (simp; omega))) _ | exact Blk.alloc (Blk.below (Blk.drew1 ((blk_two _ _ _ _ _).1)) hb6 (by first | (simp; done) | (simp; omega))) _ | exact Blk.alloc (Blk.below (Blk.drew1 ((blk_two _ _ _ _ _).2)) hb6 (by first | (simp; done) | (simp; omega))) _)
               rintro e w7 ⟨rfl, hb7⟩
               have hq7 : Below w5.heap.size w5 w7 := Below.trans (by (repeat' (first | assumption | exact Below.refl _ _ | exact Below.size (by assumption) | (refine Below.setCell ?_ ?_ _) | (refine Below.alloc ?_ ?_ _) | (refine Below.drew ?_) | (refine below_drewN ?_ _) | (refine Below.trans ?_ (Below.mono ‹Below _ _ _› ?_)) | omega | (simp; done) | (simp; omega) | (simp at *; omega)))) (hb7.mono (Nat.le_trans hq6.size (by simp <;> omega)))
               have HQ7 := Lib.hid (HQ5.out.call hq7)
               have HBG7 := Lib.hid (HBG5.out.call hq7)
               clear hb7)
            | ((refine step_append_lies _ (by rfl) _ _ _ (by rfl) w1.heap.size 9 SI0 (.string ByteArray.empty) 1 16 Tryz.underlying27 SI1.out SI2.out SI3.out SI4.out rfl (by omega) (.slice A8 N cap8) (N) (sc R) (by rfl) (HQ7.out.1.alloc _) ⟨w7.heap.size, 0, none⟩ 2 2 [.string l1, .string l2] (by rfl) (by rfl) (World.news_of_block (cs := #[.string l1, .string l2]) (t := 9) (fr := (0, 0)) (heap_alloc_new w7 _)) (by simp [Value.oneCell']) (by omega) (h63_2 HN2.out) (hby_2 HN2.out) (base_alloc1 HQ7.out.2.size _) (w7.heap.size + 1) (by simp) ?_
                intro gg capg wA hownA hgrowA hatA hltA
                have HM8 := Lib.hid (HQ7.out.app2 hownA hgrowA)
                have y0 := (blk_app HBG7.out HQ7.out (by decide) hgrowA).cell 0
                clear hownA hgrowA hatA hltA)))
          all_goals (go_wp2_with fail; go_roundw; (case rel => exact ⟨i', N + 2, _, HI', rfl, HR'.out.symm, HLEN, HM8⟩); (case measure => exact HMS.out))
    · have T0 : decide ((i : Int) < (n : Int)) = false := by simp <;> omega
      have T0' : decide (i < n) = false := decide_eq_false hlt
      have hin : i = n := by have := Hi.out; omega

      have HIN := Lib.hid hin
      clear hin hlt d0 d1
      go_wp2_with fail
      go_ret2
      exact HQ.out.lin H1.out HN.out HN2.out (.inr (.inr ⟨HG.out, HS1.out, by rw [HR.out, HIN.out], rfl⟩))
end Go.Proofs.YtfgakaielfekoaaGreatDoor

/- Nodes of the reference of reports. -/
import Derived.Test.YtfgakaielfekoaaGreatDoorTnp
import Derived.Test.YtfgakaielfekoaaGreatDoorMgB
namespace Go.Proofs.YtfgakaielfekoaaGreatDoor
open Go.RowKit
set_option linter.unusedVariables false
set_option linter.unusedSimpArgs false

theorem ln3_cat (nm wd cat : ByteArray) (z : Int) (h : cat.data.toList = 32 :: (wd.data.toList ++ [32])) : (nm ++ cat) ++ numB z = ln3 nm wd z := by
  apply bytes_ext
  rw [ByteArray.toList_eq, ByteArray.toList_eq]
  have e : jn [nm, wd, numB z] = nm.data.toList ++ 32 :: (wd.data.toList ++ 32 :: (numB z).data.toList) := by
    have a := jn_snoc (R := [nm]) (by simp) wd
    rw [jn_one] at a
    have b := jn_snoc (R := [nm, wd]) (by simp) (numB z)
    rw [show ([nm, wd] : List ByteArray) = [nm] ++ [wd] from rfl, a] at b
    simpa using b
  show ((nm ++ cat) ++ numB z).data.toList = (bsx (jn [nm, wd, numB z])).data.toList
  rw [e]
  simp [ByteArray.data_append, h, bsx]
set_option maxRecDepth 100000 in
set_option maxHeartbeats 16000000 in
theorem rNodes (NA LA : Option Addr) (n nc m lc : Nat) (D : Nds) (K : Lks) (hz : NetSz D n K m) (A : Option Addr) (s c : Nat) (S : Sts) (h20 : s ≤ 20) (h14 : n ≤ 14) (hnm : ∀ i, i < n → (D.Nm i).size ≤ 60) (hs : ∀ k, k < s → S.VN k ≤ 2000 ∧ S.PN k ≤ 2000 ∧ S.SN k ≤ 2000 ∧ S.ON k ≤ 2000) (w : World) (hD : NdIn w NA n D) (hK : LkIn w LA m K) (ht : StIn w A s S) :
    Calls Tryz.prog 27 #[.agg #[.slice NA n nc, .slice LA m lc], .slice A s c] w (LinPost w (NodesIs D n K m S s)) := by
  have HD := Lib.hid hD
  have HK := Lib.hid hK
  have HT := Lib.hid ht
  have H20 := Lib.hid h20
  have H14 := Lib.hid h14
  have HNM := Lib.hid hnm
  have H0 : Hid (Below w.heap.size w (w.alloc (Obj.cells #[.slice NA n nc, .slice LA m lc] 25))) := (Below.refl _ w).alloc (Nat.le_refl _) _
  have HB0 := Lib.hid (Blk.new w 25 #[.slice NA n nc, .slice LA m lc])
  have ss := fun w hD hK ht v hv => rstates NA LA n nc m lc D K hz A s c S (by omega) hs w hD hK ht v hv
  by_cases g0 : stsP D n K m S s
  case neg =>
    have SS := Lib.hid fun w hD hK ht => ss w hD hK ht 1 ⟨fun h => absurd h g0, fun _ => rfl⟩
    have HR : Hid (NodesIs D n K m S s [] 1) := .inl ⟨g0, rfl, rfl⟩
    clear ss g0 hz h20 h14 hnm hs hD hK ht
    go_enter Tryz.func27, Tryz.ntmps27
    go_wp2_with (first
      | (go_at_call 69
         with_reducible refine (SS.out _ ?_ ?_ ?_).mono ?_
         focus (exact HD.out.below (Nat.le_refl _) H0.out)
         focus (exact HK.out.below (Nat.le_refl _) H0.out)
         focus (exact HT.out.below (Nat.le_refl _) H0.out)
         rintro e w1 ⟨rfl, hb1⟩
         have H1 := Lib.hid (below_step H0.out hb1)
         have HB1 := Lib.hid (HB0.out.call hb1)
         obtain ⟨d0, d1⟩ := blk2 HB1.out
         clear hb1))
    go_ret2
    exact lin_nil HR.out H1.out
  have SS := Lib.hid fun w hD hK ht => ss w hD hK ht 0 ⟨fun _ => rfl, fun h => absurd g0 h⟩
  by_cases g1 : s = 0
  case pos =>
    have HR : Hid (NodesIs D n K m S s [] 14) := .inr (.inl ⟨g0, g1, rfl, rfl⟩)
    have t1 : ((s : Int) == 0) = true := by simp; omega
    have t1' : (s == 0) = true := by simpa using g1
    clear ss g0 g1 hz h20 h14 hnm hs hD hK ht
    go_enter Tryz.func27, Tryz.ntmps27
    go_wp2_with (first
      | (go_at_call 69
         with_reducible refine (SS.out _ ?_ ?_ ?_).mono ?_
         focus (exact HD.out.below (Nat.le_refl _) H0.out)
         focus (exact HK.out.below (Nat.le_refl _) H0.out)
         focus (exact HT.out.below (Nat.le_refl _) H0.out)
         rintro e w1 ⟨rfl, hb1⟩
         have H1 := Lib.hid (below_step H0.out hb1)
         have HB1 := Lib.hid (HB0.out.call hb1)
         obtain ⟨d0, d1⟩ := blk2 HB1.out
         clear hb1))
    go_ret2
    exact lin_nil HR.out H1.out
  have t1 : ((s : Int) == 0) = false := by simp; omega
  have t1' : (s == 0) = false := by simpa using g1
  have t2 : decide ((10000 : Int) < (s : Int)) = false := decide_eq_false (by omega)
  have t2' : decide (10000 < s) = false := decide_eq_false (by omega)
  have s0 : (0 : Int) < (s : Int) := by omega
  have s0' : 0 < s := by omega
  have HG := Lib.hid g0
  have HS1 : Hid (1 ≤ s) := by show 1 ≤ s; omega
  obtain ⟨SI0, si0, sz0, sz1, sz2⟩ := info_parts1 infoS
  have SI1 := Lib.hid si0
  have SI2 := Lib.hid sz0
  have SI3 := Lib.hid sz1
  have SI4 := Lib.hid sz2
  clear si0 sz0 sz1 sz2

  clear ss g0 g1 hz h20 h14 hnm hs hD hK ht
  go_enter Tryz.func27, Tryz.ntmps27
  go_wp2_with (first
    | (go_at_call 69
       with_reducible refine (SS.out _ ?_ ?_ ?_).mono ?_
       focus (exact HD.out.below (Nat.le_refl _) H0.out)
       focus (exact HK.out.below (Nat.le_refl _) H0.out)
       focus (exact HT.out.below (Nat.le_refl _) H0.out)
       rintro e w1 ⟨rfl, hb1⟩
       have H1 := Lib.hid (below_step H0.out hb1)
       have HB1 := Lib.hid (HB0.out.call hb1)
       obtain ⟨d0, d1⟩ := blk2 HB1.out
       clear hb1))
  clear d0 d1
  generalize hgw : w.heap.size = gw at HB1 ⊢
  clear HB0 H0
  go_loopw [7, 8] (fun u v wr => ∃ (i N : Nat) (R : List ByteArray), Hid (i ≤ n) ∧ v = .int .i64 i ∧ Hid (R = nout D S s i) ∧ Hid (N = R.length) ∧ Hid (RMem5 w1 wr u N R)) (fun _ v _ => n - (RowKit.intOf v).toNat)
  case atStart => exact ⟨0, 0, [], Nat.zero_le _, rfl, rfl, rfl, World.ownsRow_nil _ _ _ _, Below.refl _ _⟩
  case round =>
    obtain ⟨i, N, R, Hi, rfl, HR, HN, HQ⟩ := hrel
    obtain ⟨A8, cap8, h8⟩ := HQ.out.form
    subst h8
    have HWr : Hid (Below w.heap.size w wr) := below_step H1.out HQ.out.2
    have HN2 : Hid (N ≤ 2000) := by show N ≤ 2000; rw [HN.out, HR.out, nout_len]; have := Hi.out; have := H14.out; omega
    have HBr := Lib.hid (HB1.out.call HQ.out.2)
    obtain ⟨d0, d1⟩ := blk2 HBr.out
    by_cases hlt : i < n
    · have T0 : decide ((i : Int) < (n : Int)) = true := by simp <;> omega
      have T0' : decide (i < n) = true := decide_eq_true hlt
      obtain ⟨i', hi'⟩ : ∃ z, z = i + 1 := ⟨_, rfl⟩
      have x0 : IntKind.i64.wrap ((i : Int) + 1) = (i' : Int) := by have := H14.out; rw [IntKind.wrap_i64]; omega
      have HI' : Hid (i' ≤ n) := by show i' ≤ n; omega
      have HMS : Hid (n - (RowKit.intOf (Value.int .i64 (i' : Int))).toNat < n - (RowKit.intOf (Value.int .i64 (i : Int))).toNat) := by show _ < _; simp [RowKit.intOf]; omega
      have k0 : (0 : Int) ≤ (i : Int) := by omega
      have k1 : (i : Int) < (n : Int) := by omega

      obtain ⟨b, off, rfl, hb, hC, htab⟩ := (HD.out.below (Nat.le_refl _) HWr.out).at hlt
      have c0 := hC 0 _ rfl
      have c1 := hC 1 _ rfl
      have c2 := hC 2 _ rfl
      have c3 := hC 3 _ rfl
      have c4 := hC 4 _ rfl
      have c5 := hC 5 _ rfl
      have c6 := hC 6 _ rfl
      have c7 := hC 7 _ rfl
      have c8 := hC 8 _ rfl
      simp only [Nat.add_zero] at c0
      have HND := Lib.hid (HG.out.node hlt)
      have hsz := HNM.out i hlt
      have HSZ := Lib.hid hsz
      have HLT := Lib.hid hlt
      have HTBr := Lib.hid htab
      have HR' : Hid (nout D S s i' = R ++ [ln3 (D.Nm i) wLv (lvF D i (mxV S s i)), ln3 (D.Nm i) wPd (mxP S s i)]) := by show _ = _; rw [hi', HR.out]; rfl
      have hvk : ∀ k, k < s → 0 ≤ S.V k i ∧ S.V k i ≤ 1125899906842624 := fun k hk => by have h1 := (HG.out.vol hk hlt).1; have h2 := HND.out.lv.2.2; omega
      have HVK := Lib.hid hvk
      have hmp : 0 ≤ mxP S s i ∧ mxP S s i ≤ 1125899906842624 := ⟨mx_nn _ _, mx_le (by omega) fun k hk => (HG.out.vol hk hlt).2.1.2⟩
      have HMP := Lib.hid hmp
      have HLV : Hid (∀ v, 0 ≤ v → -4294967296000000 < lvF D i v ∧ lvF D i v < 4294967296000000) := fun v hv => lv_bd HND.out hv
      have HSL : Hid (∀ v w, 0 ≤ v → TabIn w (D.SA i) (D.SN i) (D.SX i) (D.SY i) → Calls Tryz.prog 70 #[.agg #[.string (D.Nm i), .int .i64 (D.Kd i), .int .i64 (D.Ax i), .int .i64 (D.Ay i), .int .i64 (D.Iv i), .int .i64 (D.Gd i), .slice (D.SA i) (D.SN i) (D.SC i), .bool (D.Pt i), .int .i64 (D.Rs i)], .int .i64 v] w fun e w' => e = .returned (.int .i64 (lvF D i v)) ∧ Below w.heap.size w w') := fun v w hv ht => rlevel29 (D.Nm i) (D.Kd i) (D.Ax i) (D.Ay i) (D.Iv i) (D.Gd i) (D.SA i) (D.SN i) (D.SC i) (D.SX i) (D.SY i) (D.Pt i) (D.Rs i) v ⟨HND.out.lv.1.1, HND.out.lv.1.2, hv, HND.out.lv.2.1⟩ w ht
      have HRX : Hid (rx (lvF D i) (fun k => S.V k i) s = lvF D i (mxV S s i)) := rx_eq _ _ HS1.out (fun k hk => (hvk k hk).1) (fun y z hy h => lv_mono HND.out.lv.2.1 hy h)
      obtain ⟨bs, os, hAA, hbs, hCs, hLs⟩ := (HT.out.below (Nat.le_refl _) HWr.out).at (k := 0) HS1.out
      have hvp := HG.out.vol (k := 0) HS1.out hlt
      obtain ⟨bv, ov, hA1, hbv, cv⟩ := hLs.1.at hvp.2.2.1
      have e0 := hCs 0 _ rfl
      rw [hA1] at e0
      simp only [Nat.zero_mul, Nat.add_zero] at e0
      have k3 : (i : Int) < (S.VN 0 : Int) := by omega
      have k5 : i < S.VN 0 := hvp.2.2.1
      have SL0 := Lib.hid fun w => HSL.out (S.V 0 i) w (hvk 0 HS1.out).1
      subst hAA
      clear hi' hC htab hsz hlt hmp hvk hCs hLs hvp hA1
      go_upto_region 12 with fail
      have KS : Hid (∀ w', Below wr.heap.size wr w' → w'.cell? ⟨gw, 0, none⟩ = some (.slice (some ⟨b, off, none⟩) n nc) ∧ w'.cell? ⟨b, off + i * 9, none⟩ = some (.string (D.Nm i)) ∧ w'.cell? ⟨b, off + i * 9 + 1, none⟩ = some (.int .i64 (D.Kd i)) ∧ w'.cell? ⟨b, off + i * 9 + 2, none⟩ = some (.int .i64 (D.Ax i)) ∧ w'.cell? ⟨b, off + i * 9 + 3, none⟩ = some (.int .i64 (D.Ay i)) ∧ w'.cell? ⟨b, off + i * 9 + 4, none⟩ = some (.int .i64 (D.Iv i)) ∧ w'.cell? ⟨b, off + i * 9 + 5, none⟩ = some (.int .i64 (D.Gd i)) ∧ w'.cell? ⟨b, off + i * 9 + 6, none⟩ = some (.slice (D.SA i) (D.SN i) (D.SC i)) ∧ w'.cell? ⟨b, off + i * 9 + 7, none⟩ = some (.bool (D.Pt i)) ∧ w'.cell? ⟨b, off + i * 9 + 8, none⟩ = some (.int .i64 (D.Rs i)) ∧ w'.cell? ⟨bs, os, none⟩ = some (.slice (some ⟨bv, ov, none⟩) (S.VN 0) (S.VC 0)) ∧ w'.cell? ⟨bv, ov + i, none⟩ = some (.int .i64 (S.V 0 i))) := fun w' h => ⟨(HBr.out.call h).cell 0, (h.cell (p := ⟨b, _, none⟩) hb).trans c0, (h.cell (p := ⟨b, _, none⟩) hb).trans c1, (h.cell (p := ⟨b, _, none⟩) hb).trans c2, (h.cell (p := ⟨b, _, none⟩) hb).trans c3, (h.cell (p := ⟨b, _, none⟩) hb).trans c4, (h.cell (p := ⟨b, _, none⟩) hb).trans c5, (h.cell (p := ⟨b, _, none⟩) hb).trans c6, (h.cell (p := ⟨b, _, none⟩) hb).trans c7, (h.cell (p := ⟨b, _, none⟩) hb).trans c8, (h.cell (p := ⟨bs, os, none⟩) hbs).trans e0, (h.cell (p := ⟨bv, ov + i, none⟩) hbv).trans cv⟩
      go_region_held3 (fun w' => w'.cell? ⟨gw, 0, none⟩ = some (.slice (some ⟨b, off, none⟩) n nc) ∧ w'.cell? ⟨b, off + i * 9, none⟩ = some (.string (D.Nm i)) ∧ w'.cell? ⟨b, off + i * 9 + 1, none⟩ = some (.int .i64 (D.Kd i)) ∧ w'.cell? ⟨b, off + i * 9 + 2, none⟩ = some (.int .i64 (D.Ax i)) ∧ w'.cell? ⟨b, off + i * 9 + 3, none⟩ = some (.int .i64 (D.Ay i)) ∧ w'.cell? ⟨b, off + i * 9 + 4, none⟩ = some (.int .i64 (D.Iv i)) ∧ w'.cell? ⟨b, off + i * 9 + 5, none⟩ = some (.int .i64 (D.Gd i)) ∧ w'.cell? ⟨b, off + i * 9 + 6, none⟩ = some (.slice (D.SA i) (D.SN i) (D.SC i)) ∧ w'.cell? ⟨b, off + i * 9 + 7, none⟩ = some (.bool (D.Pt i)) ∧ w'.cell? ⟨b, off + i * 9 + 8, none⟩ = some (.int .i64 (D.Rs i)) ∧ w'.cell? ⟨bs, os, none⟩ = some (.slice (some ⟨bv, ov, none⟩) (S.VN 0) (S.VC 0)) ∧ w'.cell? ⟨bv, ov + i, none⟩ = some (.int .i64 (S.V 0 i))) (first
        | exact KS.out _ (Below.refl _ wr)
        | exact KS.out _ ((Below.refl _ wr).drew)
        | exact KS.out _ hq5) (first
        | (go_at_call 70
           with_reducible refine (SL0.out _ ?_).mono ?_
           focus (exact HTBr.out.below (Nat.le_refl _) ((Below.refl _ wr).drew))
           rintro e w5 ⟨rfl, hb5⟩
           have hq5 : Below wr.heap.size wr w5 := ((Below.refl _ wr).drew).trans hb5
           clear hb5))
      have HW5 := Lib.hid (below_step HWr.out hq5)
      have HQ5 := Lib.hid (HQ.out.call hq5)
      have HB5 := Lib.hid (HBr.out.call hq5)
      have KN : Hid (∀ w', Below wr.heap.size wr w' → (w'.cell? ⟨b, off + i * 9, none⟩ = some (.string (D.Nm i)) ∧ w'.cell? ⟨b, off + i * 9 + 1, none⟩ = some (.int .i64 (D.Kd i)) ∧ w'.cell? ⟨b, off + i * 9 + 2, none⟩ = some (.int .i64 (D.Ax i)) ∧ w'.cell? ⟨b, off + i * 9 + 3, none⟩ = some (.int .i64 (D.Ay i)) ∧ w'.cell? ⟨b, off + i * 9 + 4, none⟩ = some (.int .i64 (D.Iv i)) ∧ w'.cell? ⟨b, off + i * 9 + 5, none⟩ = some (.int .i64 (D.Gd i)) ∧ w'.cell? ⟨b, off + i * 9 + 6, none⟩ = some (.slice (D.SA i) (D.SN i) (D.SC i)) ∧ w'.cell? ⟨b, off + i * 9 + 7, none⟩ = some (.bool (D.Pt i)) ∧ w'.cell? ⟨b, off + i * 9 + 8, none⟩ = some (.int .i64 (D.Rs i))) ∧ TabIn w' (D.SA i) (D.SN i) (D.SX i) (D.SY i)) := fun w' h => ⟨⟨(h.cell (p := ⟨b, _, none⟩) hb).trans c0, (h.cell (p := ⟨b, _, none⟩) hb).trans c1, (h.cell (p := ⟨b, _, none⟩) hb).trans c2, (h.cell (p := ⟨b, _, none⟩) hb).trans c3, (h.cell (p := ⟨b, _, none⟩) hb).trans c4, (h.cell (p := ⟨b, _, none⟩) hb).trans c5, (h.cell (p := ⟨b, _, none⟩) hb).trans c6, (h.cell (p := ⟨b, _, none⟩) hb).trans c7, (h.cell (p := ⟨b, _, none⟩) hb).trans c8⟩, HTBr.out.below (Nat.le_refl _) h⟩
      have HQ5b := Lib.hid hq5
      clear hq5 KS d0 d1 c0 c1 c2 c3 c4 c5 c6 c7 c8 e0 cv k3 k5 hb hbs hbv
      go_wp2_with fail
      obtain ⟨w3, rfl⟩ : ∃ w3 : World, w3 = wr := ⟨_, rfl⟩
      go_loopw [9, 10, 11] (fun a b u wr => ∃ (k : Nat) (lv pd : Int), Hid (k ≤ s) ∧ u = .int .i64 k ∧ a = .int .i64 lv ∧ b = .int .i64 pd ∧ Hid (lv = rx (lvF D i) (fun k => S.V k i) k) ∧ Hid (pd = mx (fun k => S.P k i) k) ∧ Hid (Below w5.heap.size w5 wr)) (fun _ _ u _ => s - (RowKit.intOf u).toNat)
      case atStart => exact ⟨0, lvF D i (S.V 0 i), 0, Nat.zero_le _, rfl, rfl, rfl, rfl, rfl, Below.refl _ _⟩
      case round =>
        obtain ⟨k, lv, pd, Hk, rfl, rfl, rfl, HLX, HPX, HWk⟩ := hrel
        have HWWk := Lib.hid (below_step HW5.out HWk.out)
        have HBk := Lib.hid (HB5.out.call HWk.out)
        have hk3 : Below w3.heap.size w3 wr := HQ5b.out.trans (HWk.out.mono HQ5b.out.size)
        obtain ⟨⟨c0, c1, c2, c3, c4, c5, c6, c7, c8⟩, htb⟩ := KN.out _ hk3
        have HTBr := Lib.hid htb
        obtain ⟨d0, d1⟩ := blk2 HBk.out
        have hb := World.block_lt_of_cell? wr _ c0
        have hb : b < wr.heap.size := hb
        clear htb hk3
        by_cases hlt : k < s
        · have T0 : decide ((k : Int) < (s : Int)) = true := by simp <;> omega
          have T0' : decide (k < s) = true := decide_eq_true hlt
          obtain ⟨k', hi'⟩ : ∃ z, z = k + 1 := ⟨_, rfl⟩
          have x0 : IntKind.i64.wrap ((k : Int) + 1) = (k' : Int) := by have := H20.out; rw [IntKind.wrap_i64]; omega
          have HI' : Hid (k' ≤ s) := by show k' ≤ s; omega
          have HMS : Hid (s - (RowKit.intOf (Value.int .i64 (k' : Int))).toNat < s - (RowKit.intOf (Value.int .i64 (k : Int))).toNat) := by show _ < _; simp [RowKit.intOf]; omega
          have k0 : (0 : Int) ≤ (k : Int) := by omega
          have k1 : (k : Int) < (s : Int) := by omega

          obtain ⟨bs', os', hAA, hbs, hCs, hLs⟩ := (HT.out.below (Nat.le_refl _) HWWk.out).at hlt
          injection hAA with hAA
          injection hAA with e1 e2
          subst e1 e2
          have hvp := HG.out.vol hlt HLT.out
          obtain ⟨bv, ov, hA1, hbv, cv⟩ := hLs.1.at hvp.2.2.1
          obtain ⟨bp, op, hA2, hbp, cp⟩ := hLs.2.1.at hvp.2.2.2
          have e0 := hCs 0 _ rfl
          have e1 := hCs 1 _ rfl
          rw [hA1] at e0
          rw [hA2] at e1
          simp only [Nat.add_zero] at e0
          have m0 : (0 : Int) ≤ (i : Int) := by omega
          have m1 : (i : Int) < (n : Int) := by have := HLT.out; omega
          have k3 : (i : Int) < (S.VN k : Int) := by omega
          have k4 : (i : Int) < (S.PN k : Int) := by omega
          have k5 : i < S.VN k := hvp.2.2.1
          have k6 : i < S.PN k := hvp.2.2.2
          have SLk := Lib.hid fun w => HSL.out (S.V k i) w (HVK.out k hlt).1
          have HLX' : Hid ((if lv < lvF D i (S.V k i) then lvF D i (S.V k i) else lv) = rx (lvF D i) (fun k => S.V k i) k') := by show _ = _; rw [hi', HLX.out]; rfl
          have HPX' : Hid ((if pd < S.P k i then S.P k i else pd) = mx (fun k => S.P k i) k') := by show _ = _; rw [hi', HPX.out]; rfl
          clear hi' hCs hLs hvp hA1 hA2 hlt
          generalize lvF D i (S.V k i) = h at SLk HLX'
          go_upto_region 16 with fail
          have KS : Hid (∀ w', Below wr.heap.size wr w' → w'.cell? ⟨gw, 0, none⟩ = some (.slice (some ⟨b, off, none⟩) n nc) ∧ w'.cell? ⟨b, off + i * 9, none⟩ = some (.string (D.Nm i)) ∧ w'.cell? ⟨b, off + i * 9 + 1, none⟩ = some (.int .i64 (D.Kd i)) ∧ w'.cell? ⟨b, off + i * 9 + 2, none⟩ = some (.int .i64 (D.Ax i)) ∧ w'.cell? ⟨b, off + i * 9 + 3, none⟩ = some (.int .i64 (D.Ay i)) ∧ w'.cell? ⟨b, off + i * 9 + 4, none⟩ = some (.int .i64 (D.Iv i)) ∧ w'.cell? ⟨b, off + i * 9 + 5, none⟩ = some (.int .i64 (D.Gd i)) ∧ w'.cell? ⟨b, off + i * 9 + 6, none⟩ = some (.slice (D.SA i) (D.SN i) (D.SC i)) ∧ w'.cell? ⟨b, off + i * 9 + 7, none⟩ = some (.bool (D.Pt i)) ∧ w'.cell? ⟨b, off + i * 9 + 8, none⟩ = some (.int .i64 (D.Rs i)) ∧ w'.cell? ⟨bs, os + k * 4, none⟩ = some (.slice (some ⟨bv, ov, none⟩) (S.VN k) (S.VC k)) ∧ w'.cell? ⟨bv, ov + i, none⟩ = some (.int .i64 (S.V k i))) := fun w' h => ⟨(HBk.out.call h).cell 0, (h.cell (p := ⟨b, _, none⟩) hb).trans c0, (h.cell (p := ⟨b, _, none⟩) hb).trans c1, (h.cell (p := ⟨b, _, none⟩) hb).trans c2, (h.cell (p := ⟨b, _, none⟩) hb).trans c3, (h.cell (p := ⟨b, _, none⟩) hb).trans c4, (h.cell (p := ⟨b, _, none⟩) hb).trans c5, (h.cell (p := ⟨b, _, none⟩) hb).trans c6, (h.cell (p := ⟨b, _, none⟩) hb).trans c7, (h.cell (p := ⟨b, _, none⟩) hb).trans c8, (h.cell (p := ⟨bs, os + k * 4, none⟩) hbs).trans e0, (h.cell (p := ⟨bv, ov + i, none⟩) hbv).trans cv⟩
          go_region_held3 (fun w' => w'.cell? ⟨gw, 0, none⟩ = some (.slice (some ⟨b, off, none⟩) n nc) ∧ w'.cell? ⟨b, off + i * 9, none⟩ = some (.string (D.Nm i)) ∧ w'.cell? ⟨b, off + i * 9 + 1, none⟩ = some (.int .i64 (D.Kd i)) ∧ w'.cell? ⟨b, off + i * 9 + 2, none⟩ = some (.int .i64 (D.Ax i)) ∧ w'.cell? ⟨b, off + i * 9 + 3, none⟩ = some (.int .i64 (D.Ay i)) ∧ w'.cell? ⟨b, off + i * 9 + 4, none⟩ = some (.int .i64 (D.Iv i)) ∧ w'.cell? ⟨b, off + i * 9 + 5, none⟩ = some (.int .i64 (D.Gd i)) ∧ w'.cell? ⟨b, off + i * 9 + 6, none⟩ = some (.slice (D.SA i) (D.SN i) (D.SC i)) ∧ w'.cell? ⟨b, off + i * 9 + 7, none⟩ = some (.bool (D.Pt i)) ∧ w'.cell? ⟨b, off + i * 9 + 8, none⟩ = some (.int .i64 (D.Rs i)) ∧ w'.cell? ⟨bs, os + k * 4, none⟩ = some (.slice (some ⟨bv, ov, none⟩) (S.VN k) (S.VC k)) ∧ w'.cell? ⟨bv, ov + i, none⟩ = some (.int .i64 (S.V k i))) (first
            | exact KS.out _ (Below.refl _ wr)
            | exact KS.out _ ((Below.refl _ wr).drew)
            | exact KS.out _ hq5) (first
            | (go_at_call 70
               with_reducible refine (SLk.out _ ?_).mono ?_
               focus (exact HTBr.out.below (Nat.le_refl _) ((Below.refl _ wr).drew))
               rintro e w5 ⟨rfl, hb5⟩
               have hq5 : Below wr.heap.size wr w5 := ((Below.refl _ wr).drew).trans hb5
               clear hb5))
          have f1 := (hq5.cell (p := ⟨bs, os + k * 4 + 1, none⟩) hbs).trans e1
          have fp := (hq5.cell (p := ⟨bp, op + i, none⟩) hbp).trans cp
          have HWq := Lib.hid (below_step HWk.out hq5)
          clear hq5 KS c0 c1 c2 c3 c4 c5 c6 c7 c8 e0 e1 cv cp hbs hbv hbp hb d0 d1
          by_cases hh : lv < h
          · have t3 : decide (lv < h) = true := decide_eq_true hh
            rw [if_pos hh] at HLX'
            clear hh
            by_cases hp : pd < S.P k i
            · have t4 : decide (pd < S.P k i) = true := decide_eq_true hp
              rw [if_pos hp] at HPX'
              clear hp
              go_wp2_with fail
              go_roundw
              case rel => exact ⟨k', _, _, HI', rfl, rfl, rfl, HLX', HPX', HWq⟩
              case measure => exact HMS.out
            · have t4 : decide (pd < S.P k i) = false := decide_eq_false hp
              rw [if_neg hp] at HPX'
              clear hp
              go_wp2_with fail
              go_roundw
              case rel => exact ⟨k', _, _, HI', rfl, rfl, rfl, HLX', HPX', HWq⟩
              case measure => exact HMS.out
          · have t3 : decide (lv < h) = false := decide_eq_false hh
            rw [if_neg hh] at HLX'
            clear hh
            by_cases hp : pd < S.P k i
            · have t4 : decide (pd < S.P k i) = true := decide_eq_true hp
              rw [if_pos hp] at HPX'
              clear hp
              go_wp2_with fail
              go_roundw
              case rel => exact ⟨k', _, _, HI', rfl, rfl, rfl, HLX', HPX', HWq⟩
              case measure => exact HMS.out
            · have t4 : decide (pd < S.P k i) = false := decide_eq_false hp
              rw [if_neg hp] at HPX'
              clear hp
              go_wp2_with fail
              go_roundw
              case rel => exact ⟨k', _, _, HI', rfl, rfl, rfl, HLX', HPX', HWq⟩
              case measure => exact HMS.out
        · have T0 : decide ((k : Int) < (s : Int)) = false := by simp <;> omega
          have T0' : decide (k < s) = false := decide_eq_false hlt
          have hin : k = s := by have := Hk.out; omega

          subst hin
          clear hlt
          obtain rfl : lv = lvF D i (mxV S k i) := by rw [HLX.out]; exact HRX.out
          obtain rfl : pd = mxP S k i := HPX.out
          have hlv := HLV.out (mxV S k i) (mx_nn _ _)
          have hpm := HMP.out
          have hsz := HSZ.out
          have HQk := Lib.hid (HQ5.out.call HWk.out)
          clear HLX HPX HRX HSL
          generalize lvF D i (mxV S k i) = lv at hlv HR' ⊢
          generalize mxP S k i = pm at hpm HR' HMP ⊢
          have L1 := Lib.hid fun w => rnum55 lv (by omega) (by omega) w
          have L2 := Lib.hid fun w => rnum55 pm (by omega) (by omega) w
          have h1 : (⟨(Lib.itoa lv).toArray⟩ : ByteArray).size ≤ 600 := Itm.size (x := .n lv) ⟨by omega, by omega⟩
          have h2 : (⟨(Lib.itoa pm).toArray⟩ : ByteArray).size ≤ 600 := Itm.size (x := .n pm) ⟨by omega, by omega⟩
          have E1 : Hid ((D.Nm i ++ ⟨#[32, 108, 101, 118, 101, 108, 32]⟩) ++ ⟨(Lib.itoa lv).toArray⟩ = ln3 (D.Nm i) wLv lv) := ln3_cat _ _ _ _ rfl
          have E2 : Hid ((D.Nm i ++ ⟨#[32, 112, 111, 110, 100, 101, 100, 32]⟩) ++ ⟨(Lib.itoa pm).toArray⟩ = ln3 (D.Nm i) wPd pm) := ln3_cat _ _ _ _ rfl
          generalize (⟨(Lib.itoa lv).toArray⟩ : ByteArray) = x1 at L1 h1 E1
          generalize (⟨(Lib.itoa pm).toArray⟩ : ByteArray) = x2 at L2 h2 E2
          have HLEN : Hid (N + 2 = (R ++ [(D.Nm i ++ ⟨#[32, 108, 101, 118, 101, 108, 32]⟩) ++ x1, (D.Nm i ++ ⟨#[32, 112, 111, 110, 100, 101, 100, 32]⟩) ++ x2]).length) := by show _ = _; rw [List.length_append, HN.out]; rfl
          rw [← E1.out, ← E2.out] at HR'
          have v1 : (((D.Nm i).size : Nat) : Int) ≤ 8388608 := by omega
          have v2 : ((x1.size : Nat) : Int) ≤ 8388608 := by omega
          have v3 : ((x2.size : Nat) : Int) ≤ 8388608 := by omega
          have v4 : (((D.Nm i ++ ⟨#[32, 108, 101, 118, 101, 108, 32]⟩ : ByteArray).size : Nat) : Int) ≤ 8388608 := by
            have : (D.Nm i ++ ⟨#[32, 108, 101, 118, 101, 108, 32]⟩ : ByteArray).size = (D.Nm i).size + 7 := by rw [ByteArray.size_append]; rfl
            omega
          have v5 : (((D.Nm i ++ ⟨#[32, 112, 111, 110, 100, 101, 100, 32]⟩ : ByteArray).size : Nat) : Int) ≤ 8388608 := by
            have : (D.Nm i ++ ⟨#[32, 112, 111, 110, 100, 101, 100, 32]⟩ : ByteArray).size = (D.Nm i).size + 8 := by rw [ByteArray.size_append]; rfl
            omega
          have lm1 : ¬ 9223372036854775807 < (D.Nm i).size + 7 := by omega
          have lm2 : ¬ 9223372036854775807 < (D.Nm i).size + 7 + x1.size := by omega
          have lm3 : ¬ 9223372036854775807 < (D.Nm i).size + 8 := by omega
          have lm4 : ¬ 9223372036854775807 < (D.Nm i).size + 8 + x2.size := by omega
          have m0 : (0 : Int) ≤ (i : Int) := by omega
          have m1 : (i : Int) < (n : Int) := by have := HLT.out; omega
          clear hlv hpm hsz h1 h2 E1 E2 c1 c2 c3 c4 c5 c6 c7 c8
          go_upto_region 21 with fail
          have KS : Hid (∀ w', Below wr.heap.size wr w' → w'.cell? ⟨gw, 0, none⟩ = some (.slice (some ⟨b, off, none⟩) n nc) ∧ w'.cell? ⟨b, off + i * 9, none⟩ = some (.string (D.Nm i))) := fun w' h => ⟨(HBk.out.call h).cell 0, (h.cell (p := ⟨b, off + i * 9, none⟩) hb).trans c0⟩
          have KW : Hid (∀ w', Below w.heap.size w w' → w'.cell? ⟨b, off + i * 9, none⟩ = some (.string (D.Nm i))) := fun w' h => by
            obtain ⟨b', o', hA, _, hc, _⟩ := (HD.out.below (Nat.le_refl _) h).at HLT.out
            injection hA with hA
            injection hA with e1 e2
            subst e1 e2
            exact hc 0 _ rfl
          go_region_held3 (fun w' => w'.cell? ⟨gw, 0, none⟩ = some (.slice (some ⟨b, off, none⟩) n nc) ∧ w'.cell? ⟨b, off + i * 9, none⟩ = some (.string (D.Nm i))) (first
            | exact KS.out _ (Below.refl _ wr)
            | exact KS.out _ ((Below.refl _ wr).drew)
            | exact KS.out _ hq6
            | exact KS.out _ hq7
            | exact KS.out _ (hq7.alloc hq7.size _)
            | exact ⟨y0, y1⟩) (first
            | (go_at_call 57
               with_reducible refine (L1.out _).mono ?_
               rintro e w6 ⟨rfl, hb6⟩
               have hq6 : Below wr.heap.size wr w6 := ((Below.refl _ wr).drew).trans hb6
               clear hb6)
            | (go_at_call 57
               with_reducible refine (L2.out _).mono ?_
               rintro e w7 ⟨rfl, hb7⟩
               have hq7 : Below wr.heap.size wr w7 := hq6.trans (hb7.mono hq6.size)
               have HQ7 := Lib.hid (HQk.out.call hq7)
               have HB7 := Lib.hid (HBk.out.call hq7)
               clear hb7)
            | ((refine step_append_lies _ (by rfl) _ _ _ (by rfl) w1.heap.size 9 SI0 (.string ByteArray.empty) 1 16 Tryz.underlying27 SI1.out SI2.out SI3.out SI4.out rfl (by omega) (.slice A8 N cap8) (N) (sc R) (by rfl) (HQ7.out.1.alloc _) ⟨w7.heap.size, 0, none⟩ 2 2 [.string ((D.Nm i ++ ⟨#[32, 108, 101, 118, 101, 108, 32]⟩) ++ x1), .string ((D.Nm i ++ ⟨#[32, 112, 111, 110, 100, 101, 100, 32]⟩) ++ x2)] (by rfl) (by rfl) (World.news_of_block (cs := #[.string ((D.Nm i ++ ⟨#[32, 108, 101, 118, 101, 108, 32]⟩) ++ x1), .string ((D.Nm i ++ ⟨#[32, 112, 111, 110, 100, 101, 100, 32]⟩) ++ x2)]) (t := 9) (fr := (0, 0)) (heap_alloc_new w7 _)) (by simp [Value.oneCell']) (by omega) (h63_2 HN2.out) (hby_2 HN2.out) (base_alloc1 HQ7.out.2.size _) (w7.heap.size + 1) (by simp) ?_
                intro gg capg wA hownA hgrowA hatA hltA
                have HM8 := Lib.hid (HQ7.out.app2 hownA hgrowA)
                have y0 := (blk_app HB7.out HQ7.out (by decide) hgrowA).cell 0
                have y1 := KW.out _ (below_step H1.out HM8.out.2)
                clear hownA hgrowA hatA hltA)))
          all_goals (go_wp2_with fail; go_roundw; (case rel => exact ⟨i', N + 2, _, HI', rfl, HR'.out.symm, HLEN, HM8⟩); (case measure => exact HMS.out))
    · have T0 : decide ((i : Int) < (n : Int)) = false := by simp <;> omega
      have T0' : decide (i < n) = false := decide_eq_false hlt
      have hin : i = n := by have := Hi.out; omega

      have HIN := Lib.hid hin
      clear hin hlt
      go_wp2_with fail
      go_ret2
      first
      | exact HQ.out.lin H1.out HN.out HN2.out (.inr (.inr ⟨HG.out, HS1.out, by rw [HR.out, HIN.out], rfl⟩))
      | (subst hgw; exact HQ.out.lin H1.out HN.out HN2.out (.inr (.inr ⟨HG.out, HS1.out, by rw [HR.out, HIN.out], rfl⟩)))
end Go.Proofs.YtfgakaielfekoaaGreatDoor

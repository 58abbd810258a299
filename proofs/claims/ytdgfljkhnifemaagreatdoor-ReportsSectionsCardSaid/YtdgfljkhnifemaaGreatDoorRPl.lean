/- The reference's Plot. -/
import Derived.Test.YtdgfljkhnifemaaGreatDoorRPc
import Derived.Test.YtdgfljkhnifemaaGreatDoorRcs
import Derived.Test.YtdgfljkhnifemaaGreatDoorPlt
namespace Go.Proofs.YtdgfljkhnifemaaGreatDoor
open Go.RowKit
set_option linter.unusedVariables false
set_option linter.unusedSimpArgs false

theorem run_strs (H : Nat) (w : World) (h : (H : Int) ≤ 100) : (Instr.makeSlice 27 (.int .i64 (H : Int)) (.int .i64 (H : Int))).run Tryz.prog w = .ok (.slice (some ⟨w.heap.size, 0, none⟩) H H) (w.alloc (.cells (strsA H (fun _ => ByteArray.empty)) 9)) := by
  obtain ⟨i, hi, hzz⟩ := Option.map_eq_some_iff.1 infoS
  simp only [Prod.mk.injEq] at hzz
  obtain ⟨hz, hs, hb⟩ := hzz
  have hr := run_makeSlice (P := Tryz.prog) w 27 9 i (.string ByteArray.empty) Tryz.underlying27 hi hz .i64 .i64 (H : Int) (H : Int) (by omega) (by omega) (by rw [hs]; omega) (by rw [hb]; omega) (by omega)
  rw [Int.toNat_natCast, hs, Nat.mul_one] at hr
  have e : madeCells (Value.string ByteArray.empty).cells H = strsA H (fun _ => ByteArray.empty) := by
    apply Array.toList_inj.1
    rw [show (Value.string ByteArray.empty).cells = #[Value.string ByteArray.empty] from rfl, toList_madeCells_one]
    simp only [strsA, List.toList_toArray]
    apply List.ext_getElem <;> simp
  rw [hr, e]
theorem run_conv1 (w : World) (g r : Nat) (ch : UInt8) (cap : Nat) (l : ByteArray) (hl : l = bsx [ch]) (hc : w.cell? ⟨g, r, none⟩ = some (.int .u8 (ch.toNat : Int))) : (convert 81 9 (.slice (some ⟨g, r, none⟩) 1 cap)).run Tryz.prog w = .ok (.string l) w := by
  subst hl
  have h := Lib.run_convert_whole (P := Tryz.prog) w 81 5 9 Tryz.underlying81 Tryz.underlying5 Tryz.underlying9 g r (bsx [ch]) (fun i hi => by
    have h1 : (bsx [ch]).size = 1 := rfl
    have h0 : i = 0 := by omega
    subst h0
    rw [Nat.add_zero, hc]
    rfl) cap
  exact h
theorem blk_zero {w1 w3 : World} {t : TypeId} {cs : Array Value} (hb : Below (w1.alloc (.cells cs t)).drew.heap.size (w1.alloc (.cells cs t)).drew w3) : Blk w3 w1.heap.size t cs := (Blk.new w1 t cs).below (w' := w3) (B := (w1.alloc (.cells cs t)).heap.size) ⟨hb.os, hb.tape, hb.output, hb.size, hb.block⟩ (by simp)
theorem node_cells {w : World} {g : Nat} {t : TypeId} {v0 v1 v2 v3 v4 v5 v6 v7 v8 : Value} (h : Blk w g t #[v0, v1, v2, v3, v4, v5, v6, v7, v8]) :
    w.cell? ⟨g, 0, none⟩ = some v0 ∧ w.cell? ⟨g, 1, none⟩ = some v1 ∧ w.cell? ⟨g, 2, none⟩ = some v2 ∧ w.cell? ⟨g, 3, none⟩ = some v3 ∧ w.cell? ⟨g, 4, none⟩ = some v4 ∧ w.cell? ⟨g, 5, none⟩ = some v5 ∧ w.cell? ⟨g, 6, none⟩ = some v6 ∧ w.cell? ⟨g, 7, none⟩ = some v7 ∧ w.cell? ⟨g, 8, none⟩ = some v8 :=
  ⟨h.cell 0, h.cell 1, h.cell 2, h.cell 3, h.cell 4, h.cell 5, h.cell 6, h.cell 7, h.cell 8⟩
theorem below_alloc_ {w1 w3 : World} (h : Below w1.heap.size w1 w3) (o : Obj) : Below w1.heap.size w1 (w3.alloc o) := h.alloc h.size o
theorem below_set9 {w1 w3 : World} (h : Below w1.heap.size w1 w3) (v0 v1 v2 v3 v4 v5 v6 v7 v8 : Value) : Below w1.heap.size w1 (((((((((w3.setCell ⟨w1.heap.size, 0, none⟩ v0).setCell ⟨w1.heap.size, 1, none⟩ v1).setCell ⟨w1.heap.size, 2, none⟩ v2).setCell ⟨w1.heap.size, 3, none⟩ v3).setCell ⟨w1.heap.size, 4, none⟩ v4).setCell ⟨w1.heap.size, 5, none⟩ v5).setCell ⟨w1.heap.size, 6, none⟩ v6).setCell ⟨w1.heap.size, 7, none⟩ v7).setCell ⟨w1.heap.size, 8, none⟩ v8) :=
  ((((((((h.setCell (p := ⟨w1.heap.size, 0, none⟩) (Nat.le_refl _) v0).setCell (p := ⟨w1.heap.size, 1, none⟩) (Nat.le_refl _) v1).setCell (p := ⟨w1.heap.size, 2, none⟩) (Nat.le_refl _) v2).setCell (p := ⟨w1.heap.size, 3, none⟩) (Nat.le_refl _) v3).setCell (p := ⟨w1.heap.size, 4, none⟩) (Nat.le_refl _) v4).setCell (p := ⟨w1.heap.size, 5, none⟩) (Nat.le_refl _) v5).setCell (p := ⟨w1.heap.size, 6, none⟩) (Nat.le_refl _) v6).setCell (p := ⟨w1.heap.size, 7, none⟩) (Nat.le_refl _) v7).setCell (p := ⟨w1.heap.size, 8, none⟩) (Nat.le_refl _) v8
theorem blk_set9 {w3 : World} {g : Nat} {t : TypeId} {z0 z1 z2 z3 z4 z5 z6 z7 z8 : Value} (h : Blk w3 g t #[z0, z1, z2, z3, z4, z5, z6, z7, z8]) (v0 v1 v2 v3 v4 v5 v6 v7 v8 : Value) : Blk (((((((((w3.setCell ⟨g, 0, none⟩ v0).setCell ⟨g, 1, none⟩ v1).setCell ⟨g, 2, none⟩ v2).setCell ⟨g, 3, none⟩ v3).setCell ⟨g, 4, none⟩ v4).setCell ⟨g, 5, none⟩ v5).setCell ⟨g, 6, none⟩ v6).setCell ⟨g, 7, none⟩ v7).setCell ⟨g, 8, none⟩ v8) g t #[v0, v1, v2, v3, v4, v5, v6, v7, v8] :=
  by
  have h1 := h.set_ 0 v0
  have h2 := h1.set_ 1 v1
  have h3 := h2.set_ 2 v2
  have h4 := h3.set_ 3 v3
  have h5 := h4.set_ 4 v4
  have h6 := h5.set_ 5 v5
  have h7 := h6.set_ 6 v6
  have h8 := h7.set_ 7 v7
  have h9 := h8.set_ 8 v8
  clear h1 h2 h3 h4 h5 h6 h7 h8
  simp only [List.setIfInBounds_toArray, List.set_cons_zero, List.set_cons_succ] at h9
  exact h9
set_option maxRecDepth 100000 in
set_option maxHeartbeats 32000000 in
theorem rPlot (NA LA SA VA : Option Addr) (n nc m lc p pc q qc : Nat) (D : Nds) (K : Lks) (N : Nat → ByteArray) (Lo Hi : Nat → Int) (wd hh : Int) (hz : NetSz D n K m) (p20 : p ≤ 2000) (q20 : q ≤ 2000) (hpp : p ≤ 30 ∨ 300 < p) (w : World) (hD : NdIn w NA n D) (hK : LkIn w LA m K) (hN : StrIn w SA p N) (hV : TabIn w VA q Lo Hi) :
    Calls Tryz.prog 12 #[.agg #[.slice NA n nc, .slice LA m lc], .slice SA p pc, .slice VA q qc, .int .i64 wd, .int .i64 hh] w (LinPost w (PltIs D n K m N p q Lo Hi wd hh)) := by
  have HD := Lib.hid hD
  have HK := Lib.hid hK
  have HN := Lib.hid hN
  have HV := Lib.hid hV
  have HZ := Lib.hid hz
  have H0 : Hid (Below w.heap.size w (w.alloc (Obj.cells #[.slice NA n nc, .slice LA m lc] 25))) := (Below.refl _ w).alloc (Nat.le_refl _) _
  have HB0 := Lib.hid (Blk.new w 25 #[.slice NA n nc, .slice LA m lc])
  have sx := fun w hD hK hN hV => rcourse NA LA SA VA n nc m lc p pc q qc D K N Lo Hi hz p20 q20 w hD hK hN hV
  by_cases g0 : vlP D n K m q Lo Hi
  case neg =>
    rw [crsV_neg g0] at sx
    have SX := Lib.hid sx
    have HR : Hid (PltIs D n K m N p q Lo Hi wd hh [] 1) := .arg g0
    clear sx g0 hz hD hK hN hV p20 q20 hpp
    go_enter Tryz.func12, Tryz.ntmps12
    go_wp2_with (first
      | (go_at_call 37
         with_reducible refine (SX.out _ ?_ ?_ ?_ ?_).mono ?_
         focus (exact HD.out.below (Nat.le_refl _) H0.out)
         focus (exact HK.out.below (Nat.le_refl _) H0.out)
         focus (exact HN.out.below (Nat.le_refl _) H0.out)
         focus (exact HV.out.below (Nat.le_refl _) H0.out)
         rintro e w1 ⟨rfl, hb1⟩
         have H1 := Lib.hid (below_step H0.out hb1)
         have HB1 := Lib.hid (HB0.out.call hb1)
         clear hb1))

    go_ret2
    exact lin_nil HR.out H1.out
  rw [crsV_pos g0] at sx
  by_cases g2 : crsE D n K m N p q = 0
  case neg =>
    have HR : Hid (PltIs D n K m N p q Lo Hi wd hh [] (crsE D n K m N p q)) := .crs g0 g2
    have t1 : (crsE D n K m N p q == 0) = false := by simpa using g2
    have t1n : (crsE D n K m N p q != 0) = true := by simpa using g2
    have SX := Lib.hid sx
    clear sx g0 g2 hz hD hK hN hV p20 q20 hpp
    go_enter Tryz.func12, Tryz.ntmps12
    go_wp2_with (first
      | (go_at_call 37
         with_reducible refine (SX.out _ ?_ ?_ ?_ ?_).mono ?_
         focus (exact HD.out.below (Nat.le_refl _) H0.out)
         focus (exact HK.out.below (Nat.le_refl _) H0.out)
         focus (exact HN.out.below (Nat.le_refl _) H0.out)
         focus (exact HV.out.below (Nat.le_refl _) H0.out)
         rintro e w1 ⟨rfl, hb1⟩
         have H1 := Lib.hid (below_step H0.out hb1)
         have HB1 := Lib.hid (HB0.out.call hb1)
         clear hb1))

    go_ret2
    exact lin_nil HR.out H1.out
  have HGX := Lib.hid g0
  have HG2 := Lib.hid g2
  obtain ⟨z1, z2, z3, z4, z5⟩ := crsE_zero g2
  have HZ2 : Hid (1 ≤ p ∧ p ≤ 30 ∧ q = n ∧ n ≤ 2000 ∧ m ≤ 2000) := ⟨z2, by omega, z1, hz.n2, hz.m2⟩
  have HF := Lib.hid z4
  have SFN := Lib.hid fun s w hD => r_node NA LA n nc m lc D s w hz.n2 hD
  rw [g2] at sx
  have SX := Lib.hid sx
  clear sx hz hD hK hN hV p20 q20 hpp z1 z2 z3 z4 z5
  by_cases r1 : wd < 1
  case pos =>
    have HR : Hid (PltIs D n K m N p q Lo Hi wd hh [] 2) := .range g0 g2 (by omega)
    have t1 : decide (wd < 1) = true := decide_eq_true (by omega)
    clear g0 g2 r1
    go_enter Tryz.func12, Tryz.ntmps12
    go_wp2_with (first
      | (go_at_call 37
         with_reducible refine (SX.out _ ?_ ?_ ?_ ?_).mono ?_
         focus (exact HD.out.below (Nat.le_refl _) H0.out)
         focus (exact HK.out.below (Nat.le_refl _) H0.out)
         focus (exact HN.out.below (Nat.le_refl _) H0.out)
         focus (exact HV.out.below (Nat.le_refl _) H0.out)
         rintro e w1 ⟨rfl, hb1⟩
         have H1 := Lib.hid (below_step H0.out hb1)
         have HB1 := Lib.hid (HB0.out.call hb1)
         clear hb1))

    go_ret2
    exact lin_nil HR.out H1.out
  have t1 : decide (wd < 1) = false := decide_eq_false (by omega)
  by_cases r2 : 200 < wd
  case pos =>
    have HR : Hid (PltIs D n K m N p q Lo Hi wd hh [] 2) := .range g0 g2 (by omega)
    have t1 : decide (wd < 1) = false := decide_eq_false (by omega)
    have t2 : decide (200 < wd) = true := decide_eq_true (by omega)
    clear g0 g2 r2
    go_enter Tryz.func12, Tryz.ntmps12
    go_wp2_with (first
      | (go_at_call 37
         with_reducible refine (SX.out _ ?_ ?_ ?_ ?_).mono ?_
         focus (exact HD.out.below (Nat.le_refl _) H0.out)
         focus (exact HK.out.below (Nat.le_refl _) H0.out)
         focus (exact HN.out.below (Nat.le_refl _) H0.out)
         focus (exact HV.out.below (Nat.le_refl _) H0.out)
         rintro e w1 ⟨rfl, hb1⟩
         have H1 := Lib.hid (below_step H0.out hb1)
         have HB1 := Lib.hid (HB0.out.call hb1)
         clear hb1))

    go_ret2
    exact lin_nil HR.out H1.out
  have t2 : decide (200 < wd) = false := decide_eq_false (by omega)
  by_cases r3 : hh < 2
  case pos =>
    have HR : Hid (PltIs D n K m N p q Lo Hi wd hh [] 2) := .range g0 g2 (by omega)
    have t1 : decide (wd < 1) = false := decide_eq_false (by omega)
    have t2 : decide (200 < wd) = false := decide_eq_false (by omega)
    have t3 : decide (hh < 2) = true := decide_eq_true (by omega)
    clear g0 g2 r3
    go_enter Tryz.func12, Tryz.ntmps12
    go_wp2_with (first
      | (go_at_call 37
         with_reducible refine (SX.out _ ?_ ?_ ?_ ?_).mono ?_
         focus (exact HD.out.below (Nat.le_refl _) H0.out)
         focus (exact HK.out.below (Nat.le_refl _) H0.out)
         focus (exact HN.out.below (Nat.le_refl _) H0.out)
         focus (exact HV.out.below (Nat.le_refl _) H0.out)
         rintro e w1 ⟨rfl, hb1⟩
         have H1 := Lib.hid (below_step H0.out hb1)
         have HB1 := Lib.hid (HB0.out.call hb1)
         clear hb1))

    go_ret2
    exact lin_nil HR.out H1.out
  have t3 : decide (hh < 2) = false := decide_eq_false (by omega)
  by_cases r4 : 100 < hh
  case pos =>
    have HR : Hid (PltIs D n K m N p q Lo Hi wd hh [] 2) := .range g0 g2 (by omega)
    have t1 : decide (wd < 1) = false := decide_eq_false (by omega)
    have t2 : decide (200 < wd) = false := decide_eq_false (by omega)
    have t3 : decide (hh < 2) = false := decide_eq_false (by omega)
    have t4 : decide (100 < hh) = true := decide_eq_true (by omega)
    clear g0 g2 r4
    go_enter Tryz.func12, Tryz.ntmps12
    go_wp2_with (first
      | (go_at_call 37
         with_reducible refine (SX.out _ ?_ ?_ ?_ ?_).mono ?_
         focus (exact HD.out.below (Nat.le_refl _) H0.out)
         focus (exact HK.out.below (Nat.le_refl _) H0.out)
         focus (exact HN.out.below (Nat.le_refl _) H0.out)
         focus (exact HV.out.below (Nat.le_refl _) H0.out)
         rintro e w1 ⟨rfl, hb1⟩
         have H1 := Lib.hid (below_step H0.out hb1)
         have HB1 := Lib.hid (HB0.out.call hb1)
         clear hb1))

    go_ret2
    exact lin_nil HR.out H1.out
  have t4 : decide (100 < hh) = false := decide_eq_false (by omega)
  have HPI : Hid (PltIs D n K m N p q Lo Hi wd hh (prows D n N p Hi wd.toNat hh hh.toNat) 0) := .ok g0 g2 (by omega)
  obtain ⟨WD, rfl⟩ : ∃ z : Nat, wd = (z : Int) := ⟨wd.toNat, by omega⟩
  obtain ⟨H, rfl⟩ : ∃ z : Nat, hh = (z : Int) := ⟨hh.toNat, by omega⟩
  rw [Int.toNat_natCast, Int.toNat_natCast] at HPI
  have HRG : Hid (1 ≤ WD ∧ WD ≤ 200 ∧ 2 ≤ H ∧ H ≤ 100) := by show _ ∧ _; omega
  have HGB : Hid (∀ i, i < n → (-4194304 ≤ D.Iv i ∧ D.Iv i ≤ D.Gd i ∧ D.Gd i ≤ 4194304)) := fun i hi => by
    obtain ⟨_, _, _, ⟨a1, a2⟩, a3⟩ := (g0.1.2.2.1 i hi).1
    unfold lvP at a1 a2
    rcases a3 with ⟨_, a3, _⟩ | ⟨_, a3, _⟩ <;> omega
  clear r1 r2 r3 r4 g0 g2
  go_enter Tryz.func12, Tryz.ntmps12
  go_wp2_with (first
    | (go_at_call 37
       with_reducible refine (SX.out _ ?_ ?_ ?_ ?_).mono ?_
       focus (exact HD.out.below (Nat.le_refl _) H0.out)
       focus (exact HK.out.below (Nat.le_refl _) H0.out)
       focus (exact HN.out.below (Nat.le_refl _) H0.out)
       focus (exact HV.out.below (Nat.le_refl _) H0.out)
       rintro e w1 ⟨rfl, hb1⟩
       have H1 := Lib.hid (below_step H0.out hb1)
       have HB1 := Lib.hid (HB0.out.call hb1)
       clear hb1))

  have hp0 : 0 < p := HZ2.out.1
  have hp0' : (0 : Int) < (p : Int) := by omega
  obtain ⟨bS, oS, rfl, hbS, cS⟩ := (HN.out.below (Nat.le_refl _) H1.out).at hp0
  simp only [Nat.add_zero] at cS
  obtain ⟨hx, hx2, hx3⟩ := ndI_at (HF.out 0 hp0)
  obtain ⟨x, hxd⟩ : ∃ z, z = ndI D n N 0 := ⟨_, rfl⟩
  rw [← hxd] at hx hx2 hx3
  have HXD := Lib.hid hxd
  have k2 : (0 : Int) ≤ (x : Int) := by omega
  have k3 : (x : Int) < (n : Int) := by omega
  have k3' : x < n := hx
  have S1 := Lib.hid fun w hD => SFN.out (N 0) w hD
  rw [hx2] at S1
  have HD1 := Lib.hid (HD.out.below (Nat.le_refl _) H1.out)
  obtain ⟨b, off, rfl, hb, hC, htab⟩ := HD1.out.at hx
  have c0 := hC 0 _ rfl
  have c1 := hC 1 _ rfl
  have c2 := hC 2 _ rfl
  have c3 := hC 3 _ rfl
  have c4 := hC 4 _ rfl
  have c5 := hC 5 _ rfl
  have c6 := hC 6 _ rfl
  have c7 := hC 7 _ rfl
  have c8 := hC 8 _ rfl
  simp only [Nat.add_zero] at c0
  obtain ⟨d0, d1⟩ := blk2 HB1.out
  have hB := HB1.out.lt
  clear hxd hx hx2 hx3
  have HS : Hid (∀ U, Below w1.heap.size w1 U → U.cell? ⟨w.heap.size, 0, none⟩ = some (.slice (some ⟨b, off, none⟩) n nc) ∧ U.cell? ⟨w.heap.size, 1, none⟩ = some (.slice LA m lc) ∧ U.cell? ⟨bS, oS, none⟩ = some (.string (N 0)) ∧ U.cell? ⟨b, off + x * 9, none⟩ = some (.string (D.Nm x)) ∧ U.cell? ⟨b, off + x * 9 + 1, none⟩ = some (.int .i64 (D.Kd x)) ∧ U.cell? ⟨b, off + x * 9 + 2, none⟩ = some (.int .i64 (D.Ax x)) ∧ U.cell? ⟨b, off + x * 9 + 3, none⟩ = some (.int .i64 (D.Ay x)) ∧ U.cell? ⟨b, off + x * 9 + 4, none⟩ = some (.int .i64 (D.Iv x)) ∧ U.cell? ⟨b, off + x * 9 + 5, none⟩ = some (.int .i64 (D.Gd x)) ∧ U.cell? ⟨b, off + x * 9 + 6, none⟩ = some (.slice (D.SA x) (D.SN x) (D.SC x)) ∧ U.cell? ⟨b, off + x * 9 + 7, none⟩ = some (.bool (D.Pt x)) ∧ U.cell? ⟨b, off + x * 9 + 8, none⟩ = some (.int .i64 (D.Rs x))) := fun U hU =>
    ⟨(hU.cell (p := ⟨w.heap.size, 0, none⟩) hB).trans d0, (hU.cell (p := ⟨w.heap.size, 1, none⟩) hB).trans d1, (hU.cell (p := ⟨bS, oS, none⟩) hbS).trans cS, (hU.cell (p := ⟨b, off + x * 9, none⟩) hb).trans c0, (hU.cell (p := ⟨b, off + x * 9 + 1, none⟩) hb).trans c1, (hU.cell (p := ⟨b, off + x * 9 + 2, none⟩) hb).trans c2, (hU.cell (p := ⟨b, off + x * 9 + 3, none⟩) hb).trans c3, (hU.cell (p := ⟨b, off + x * 9 + 4, none⟩) hb).trans c4, (hU.cell (p := ⟨b, off + x * 9 + 5, none⟩) hb).trans c5, (hU.cell (p := ⟨b, off + x * 9 + 6, none⟩) hb).trans c6, (hU.cell (p := ⟨b, off + x * 9 + 7, none⟩) hb).trans c7, (hU.cell (p := ⟨b, off + x * 9 + 8, none⟩) hb).trans c8⟩
  have hs0 := HS.out w1 (Below.refl _ _)
  clear hC htab hb hbS hB c0 c1 c2 c3 c4 c5 c6 c7 c8 d0 d1 cS
  go_cut [13] from 44 to 52 (fun s wx => ∃ X : Nat, s = .pointer (some ⟨X, 0, none⟩) ∧ Hid (Below w1.heap.size w1 wx) ∧ Hid (Blk wx X 59 #[.string (D.Nm x), .int .i64 (D.Kd x), .int .i64 (D.Ax x), .int .i64 (D.Ay x), .int .i64 (D.Iv x), .int .i64 (D.Gd x), .slice (D.SA x) (D.SN x) (D.SC x), .bool (D.Pt x), .int .i64 (D.Rs x)]) ∧ Hid (w1.heap.size ≤ X))
  case first =>
    go_region_held3 (fun U => U.cell? ⟨w.heap.size, 0, none⟩ = some (.slice (some ⟨b, off, none⟩) n nc) ∧ U.cell? ⟨w.heap.size, 1, none⟩ = some (.slice LA m lc) ∧ U.cell? ⟨bS, oS, none⟩ = some (.string (N 0)) ∧ U.cell? ⟨b, off + x * 9, none⟩ = some (.string (D.Nm x)) ∧ U.cell? ⟨b, off + x * 9 + 1, none⟩ = some (.int .i64 (D.Kd x)) ∧ U.cell? ⟨b, off + x * 9 + 2, none⟩ = some (.int .i64 (D.Ax x)) ∧ U.cell? ⟨b, off + x * 9 + 3, none⟩ = some (.int .i64 (D.Ay x)) ∧ U.cell? ⟨b, off + x * 9 + 4, none⟩ = some (.int .i64 (D.Iv x)) ∧ U.cell? ⟨b, off + x * 9 + 5, none⟩ = some (.int .i64 (D.Gd x)) ∧ U.cell? ⟨b, off + x * 9 + 6, none⟩ = some (.slice (D.SA x) (D.SN x) (D.SC x)) ∧ U.cell? ⟨b, off + x * 9 + 7, none⟩ = some (.bool (D.Pt x)) ∧ U.cell? ⟨b, off + x * 9 + 8, none⟩ = some (.int .i64 (D.Rs x))) (first
      | with_reducible exact hs0
      | with_reducible exact HS.out _ (below_set9 hq3 _ _ _ _ _ _ _ _ _)
      | with_reducible exact HS.out _ hq3
      | with_reducible exact HS.out _ (below_alloc_ hq3 _)
      | exact HS.out _ (by (repeat' (first | assumption | exact Below.refl _ _ | exact Below.size (by assumption) | (refine Below.setCell ?_ ?_ _) | (refine Below.alloc ?_ ?_ _) | (refine Below.drew ?_) | (refine below_drewN ?_ _) | (refine Below.trans ?_ (Below.mono ‹Below _ _ _› ?_)) | omega | (simp; done) | (simp; omega) | (simp at *; omega))))) (first
      | (go_at_call 18
         with_reducible refine (S1.out _ ?_).mono ?_
         focus (exact HD1.out.below (Nat.le_refl _) (by (repeat' (first | assumption | exact Below.refl _ _ | exact Below.size (by assumption) | (refine Below.setCell ?_ ?_ _) | (refine Below.alloc ?_ ?_ _) | (refine Below.drew ?_) | (refine below_drewN ?_ _) | (refine Below.trans ?_ (Below.mono ‹Below _ _ _› ?_)) | omega | (simp; done) | (simp; omega) | (simp at *; omega)))))
         rintro e w3 ⟨rfl, hb3⟩
         have hq3 : Below w1.heap.size w1 w3 := Below.trans (by (repeat' (first | assumption | exact Below.refl _ _ | exact Below.size (by assumption) | (refine Below.setCell ?_ ?_ _) | (refine Below.alloc ?_ ?_ _) | (refine Below.drew ?_) | (refine below_drewN ?_ _) | (refine Below.trans ?_ (Below.mono ‹Below _ _ _› ?_)) | omega | (simp; done) | (simp; omega) | (simp at *; omega)))) (hb3.mono (by simp <;> omega))
         try (have hZ := blk_zero hb3
              obtain ⟨z0, z1, z2, z3, z4, z5, z6, z7, z8⟩ := node_cells hZ
              have f0 := hZ.frozen 0
              have f1 := hZ.frozen 1
              have f2 := hZ.frozen 2
              have f3 := hZ.frozen 3
              have f4 := hZ.frozen 4
              have f5 := hZ.frozen 5
              have f6 := hZ.frozen 6
              have f7 := hZ.frozen 7
              have f8 := hZ.frozen 8)
         clear hb3))
    all_goals (first
      | (have hB9 := blk_set9 hZ (.string (D.Nm x)) (.int .i64 (D.Kd x)) (.int .i64 (D.Ax x)) (.int .i64 (D.Ay x)) (.int .i64 (D.Iv x)) (.int .i64 (D.Gd x)) (.slice (D.SA x) (D.SN x) (D.SC x)) (.bool (D.Pt x)) (.int .i64 (D.Rs x))
         have hb9 := below_set9 hq3 (.string (D.Nm x)) (.int .i64 (D.Kd x)) (.int .i64 (D.Ax x)) (.int .i64 (D.Ay x)) (.int .i64 (D.Iv x)) (.int .i64 (D.Gd x)) (.slice (D.SA x) (D.SN x) (D.SC x)) (.bool (D.Pt x)) (.int .i64 (D.Rs x))
         have hl9 : w1.heap.size ≤ w1.heap.size := Nat.le_refl _
         clear z0 z1 z2 z3 z4 z5 z6 z7 z8 f0 f1 f2 f3 f4 f5 f6 f7 f8 hZ
         generalize (((((((((w3.setCell ⟨w1.heap.size, 0, none⟩ (.string (D.Nm x))).setCell ⟨w1.heap.size, 1, none⟩ (.int .i64 (D.Kd x))).setCell ⟨w1.heap.size, 2, none⟩ (.int .i64 (D.Ax x))).setCell ⟨w1.heap.size, 3, none⟩ (.int .i64 (D.Ay x))).setCell ⟨w1.heap.size, 4, none⟩ (.int .i64 (D.Iv x))).setCell ⟨w1.heap.size, 5, none⟩ (.int .i64 (D.Gd x))).setCell ⟨w1.heap.size, 6, none⟩ (.slice (D.SA x) (D.SN x) (D.SC x))).setCell ⟨w1.heap.size, 7, none⟩ (.bool (D.Pt x))).setCell ⟨w1.heap.size, 8, none⟩ (.int .i64 (D.Rs x))) = w9 at hB9 hb9 ⊢)
      | (have hB9 := Blk.new w3 59 #[.string (D.Nm x), .int .i64 (D.Kd x), .int .i64 (D.Ax x), .int .i64 (D.Ay x), .int .i64 (D.Iv x), .int .i64 (D.Gd x), .slice (D.SA x) (D.SN x) (D.SC x), .bool (D.Pt x), .int .i64 (D.Rs x)]
         have hb9 := below_alloc_ hq3 (Obj.cells #[.string (D.Nm x), .int .i64 (D.Kd x), .int .i64 (D.Ax x), .int .i64 (D.Ay x), .int .i64 (D.Iv x), .int .i64 (D.Gd x), .slice (D.SA x) (D.SN x) (D.SC x), .bool (D.Pt x), .int .i64 (D.Rs x)] 59)
         have hl9 := hq3.size
         generalize w3.alloc (Obj.cells #[.string (D.Nm x), .int .i64 (D.Kd x), .int .i64 (D.Ax x), .int .i64 (D.Ay x), .int .i64 (D.Iv x), .int .i64 (D.Gd x), .slice (D.SA x) (D.SN x) (D.SC x), .bool (D.Pt x), .int .i64 (D.Rs x)] 59) = w9 at hB9 hb9 ⊢))
    all_goals (go_wp2_with fail; go_meet)
    all_goals exact ⟨_, rfl, hb9, hB9, hl9⟩
  case rest =>
  obtain ⟨X, rfl, HWc, HXc, HXL⟩ := hcut
  generalize wc = w2 at HWc HXc ⊢
  have HW2 := Lib.hid (below_step H1.out HWc.out)
  have HB2 := Lib.hid (HB1.out.call HWc.out)
  have cX4 := HXc.out.cell 4
  have cX5 := HXc.out.cell 5
  simp only [List.getElem?_toArray, List.getElem?_cons_zero, List.getElem?_cons_succ] at cX4 cX5
  clear hs0 HS HD1 S1 HB1 H1 HWc HXL k2 k3 k3' hp0 hp0' t1 t2 t3 t4 H0
  go_upto_region 7 with fail
  go_quiet (fail)
  have HW3 : Hid (Below w.heap.size w (w2.drewN nq)) := below_drewN HW2.out _
  have HB3 : Hid (Blk (w2.drewN nq) w.heap.size 25 #[.slice (some ⟨b, off, none⟩) n nc, .slice LA m lc]) := HB2.out
  clear cX4 cX5 HXc HW2 HB2
  generalize w2.drewN nq = w3 at HW3 HB3 ⊢
  have e0 : D.Gd x = topF (fun i => D.Gd (ndI D n N i)) 0 := by rw [HXD.out]; rfl
  have e1 : D.Iv x = botF (fun i => D.Iv (ndI D n N i)) 0 := by rw [HXD.out]; rfl
  go_wp2_with fail
  go_loopw [14, 15, 16] (fun u v z wr => ∃ k : Nat, Hid (k ≤ p) ∧ u = .int .i64 (topF (fun i => D.Gd (ndI D n N i)) k) ∧ v = .int .i64 (botF (fun i => D.Iv (ndI D n N i)) k) ∧ z = .int .i64 k ∧ Hid (Below w3.heap.size w3 wr)) (fun _ _ z _ => p - (RowKit.intOf z).toNat)
  case atStart => exact ⟨0, Nat.zero_le _, by rw [e0], by rw [e1], rfl, Below.refl _ _⟩
  case round =>
    clear e0 e1
    obtain ⟨k, Hk, rfl, rfl, rfl, HQ⟩ := hrel
    by_cases hlt : k < p
    · have T0 : decide ((k : Int) < (p : Int)) = true := by simp <;> omega
      have T0' : decide (k < p) = true := decide_eq_true hlt
      obtain ⟨i', hi'⟩ : ∃ z, z = k + 1 := ⟨_, rfl⟩
      have x0 : IntKind.i64.wrap ((k : Int) + 1) = (i' : Int) := by have := HZ2.out; rw [IntKind.wrap_i64]; omega
      have HMS : Hid (p - (RowKit.intOf (Value.int .i64 (i' : Int))).toNat < p - (RowKit.intOf (Value.int .i64 (k : Int))).toNat) := by show _ < _; simp [RowKit.intOf]; omega
      have HI' : Hid (i' ≤ p) := by show i' ≤ p; omega
      have kk0 : (0 : Int) ≤ (k : Int) := by omega
      have kk1 : (k : Int) < (p : Int) := by omega
      have kk2 : k < p := hlt
      have HWr : Hid (Below w.heap.size w wr) := below_step HW3.out HQ.out
      obtain ⟨bS', oS', e1, hbS, cS⟩ := (HN.out.below (Nat.le_refl _) HWr.out).at hlt
      cases e1
      obtain ⟨hx, hx2, hx3⟩ := ndI_at (HF.out k hlt)
      obtain ⟨y, hyd⟩ : ∃ z, z = ndI D n N k := ⟨_, rfl⟩
      rw [← hyd] at hx hx2 hx3
      have k2 : (0 : Int) ≤ (y : Int) := by omega
      have k3 : (y : Int) < (n : Int) := by omega
      have k3' : y < n := hx
      have S1 := Lib.hid fun w hD => SFN.out (N k) w hD
      rw [hx2] at S1
      have HD1 := Lib.hid (HD.out.below (Nat.le_refl _) HWr.out)
      have HBr := Lib.hid (HB3.out.call HQ.out)
      obtain ⟨b', off', e2, hb, hC, htab⟩ := HD1.out.at hx
      cases e2
      have c0 := hC 0 _ rfl
      have c1 := hC 1 _ rfl
      have c2 := hC 2 _ rfl
      have c3 := hC 3 _ rfl
      have c4 := hC 4 _ rfl
      have c5 := hC 5 _ rfl
      have c6 := hC 6 _ rfl
      have c7 := hC 7 _ rfl
      have c8 := hC 8 _ rfl
      simp only [Nat.add_zero] at c0
      obtain ⟨d0, d1⟩ := blk2 HBr.out
      have hB := HBr.out.lt
      have HTY : Hid (topF (fun i => D.Gd (ndI D n N i)) i' = max (topF (fun i => D.Gd (ndI D n N i)) k) (D.Gd y)) := by show _ = _; rw [hi', hyd]; rfl
      have HBY : Hid (botF (fun i => D.Iv (ndI D n N i)) i' = min (botF (fun i => D.Iv (ndI D n N i)) k) (D.Iv y)) := by show _ = _; rw [hi', hyd]; rfl
      generalize topF (fun i => D.Gd (ndI D n N i)) k = tk at HTY ⊢
      generalize botF (fun i => D.Iv (ndI D n N i)) k = bk at HBY ⊢
      clear hyd hx hx2 hx3 hi' hlt
      go_upto_region 11 with fail
      have HS : Hid (∀ U, Below wr.heap.size wr U → U.cell? ⟨w.heap.size, 0, none⟩ = some (.slice (some ⟨b, off, none⟩) n nc) ∧ U.cell? ⟨w.heap.size, 1, none⟩ = some (.slice LA m lc) ∧ U.cell? ⟨bS, oS + k, none⟩ = some (.string (N k)) ∧ U.cell? ⟨b, off + y * 9, none⟩ = some (.string (D.Nm y)) ∧ U.cell? ⟨b, off + y * 9 + 1, none⟩ = some (.int .i64 (D.Kd y)) ∧ U.cell? ⟨b, off + y * 9 + 2, none⟩ = some (.int .i64 (D.Ax y)) ∧ U.cell? ⟨b, off + y * 9 + 3, none⟩ = some (.int .i64 (D.Ay y)) ∧ U.cell? ⟨b, off + y * 9 + 4, none⟩ = some (.int .i64 (D.Iv y)) ∧ U.cell? ⟨b, off + y * 9 + 5, none⟩ = some (.int .i64 (D.Gd y)) ∧ U.cell? ⟨b, off + y * 9 + 6, none⟩ = some (.slice (D.SA y) (D.SN y) (D.SC y)) ∧ U.cell? ⟨b, off + y * 9 + 7, none⟩ = some (.bool (D.Pt y)) ∧ U.cell? ⟨b, off + y * 9 + 8, none⟩ = some (.int .i64 (D.Rs y))) := fun U hU =>
        ⟨(hU.cell (p := ⟨w.heap.size, 0, none⟩) hB).trans d0, (hU.cell (p := ⟨w.heap.size, 1, none⟩) hB).trans d1, (hU.cell (p := ⟨bS, oS + k, none⟩) hbS).trans cS, (hU.cell (p := ⟨b, off + y * 9, none⟩) hb).trans c0, (hU.cell (p := ⟨b, off + y * 9 + 1, none⟩) hb).trans c1, (hU.cell (p := ⟨b, off + y * 9 + 2, none⟩) hb).trans c2, (hU.cell (p := ⟨b, off + y * 9 + 3, none⟩) hb).trans c3, (hU.cell (p := ⟨b, off + y * 9 + 4, none⟩) hb).trans c4, (hU.cell (p := ⟨b, off + y * 9 + 5, none⟩) hb).trans c5, (hU.cell (p := ⟨b, off + y * 9 + 6, none⟩) hb).trans c6, (hU.cell (p := ⟨b, off + y * 9 + 7, none⟩) hb).trans c7, (hU.cell (p := ⟨b, off + y * 9 + 8, none⟩) hb).trans c8⟩
      have hs0 := HS.out wr (Below.refl _ _)
      clear hC htab hb hbS hB c0 c1 c2 c3 c4 c5 c6 c7 c8 d0 d1 cS
      go_cut [17] from 63 to 72 (fun s wx => ∃ X : Nat, s = .pointer (some ⟨X, 0, none⟩) ∧ Hid (Below wr.heap.size wr wx) ∧ Hid (Blk wx X 59 #[.string (D.Nm y), .int .i64 (D.Kd y), .int .i64 (D.Ax y), .int .i64 (D.Ay y), .int .i64 (D.Iv y), .int .i64 (D.Gd y), .slice (D.SA y) (D.SN y) (D.SC y), .bool (D.Pt y), .int .i64 (D.Rs y)]) ∧ Hid (wr.heap.size ≤ X))
      case first =>
        go_region_held3 (fun U => U.cell? ⟨w.heap.size, 0, none⟩ = some (.slice (some ⟨b, off, none⟩) n nc) ∧ U.cell? ⟨w.heap.size, 1, none⟩ = some (.slice LA m lc) ∧ U.cell? ⟨bS, oS + k, none⟩ = some (.string (N k)) ∧ U.cell? ⟨b, off + y * 9, none⟩ = some (.string (D.Nm y)) ∧ U.cell? ⟨b, off + y * 9 + 1, none⟩ = some (.int .i64 (D.Kd y)) ∧ U.cell? ⟨b, off + y * 9 + 2, none⟩ = some (.int .i64 (D.Ax y)) ∧ U.cell? ⟨b, off + y * 9 + 3, none⟩ = some (.int .i64 (D.Ay y)) ∧ U.cell? ⟨b, off + y * 9 + 4, none⟩ = some (.int .i64 (D.Iv y)) ∧ U.cell? ⟨b, off + y * 9 + 5, none⟩ = some (.int .i64 (D.Gd y)) ∧ U.cell? ⟨b, off + y * 9 + 6, none⟩ = some (.slice (D.SA y) (D.SN y) (D.SC y)) ∧ U.cell? ⟨b, off + y * 9 + 7, none⟩ = some (.bool (D.Pt y)) ∧ U.cell? ⟨b, off + y * 9 + 8, none⟩ = some (.int .i64 (D.Rs y))) (first
          | with_reducible exact hs0
          | with_reducible exact HS.out _ (below_set9 hq3 _ _ _ _ _ _ _ _ _)
          | with_reducible exact HS.out _ hq3
          | with_reducible exact HS.out _ (below_alloc_ hq3 _)
          | exact HS.out _ (by (repeat' (first | assumption | exact Below.refl _ _ | exact Below.size (by assumption) | (refine Below.setCell ?_ ?_ _) | (refine Below.alloc ?_ ?_ _) | (refine Below.drew ?_) | (refine below_drewN ?_ _) | (refine Below.trans ?_ (Below.mono ‹Below _ _ _› ?_)) | omega | (simp; done) | (simp; omega) | (simp at *; omega))))) (first
          | (go_at_call 18
             with_reducible refine (S1.out _ ?_).mono ?_
             focus (exact HD1.out.below (Nat.le_refl _) (by (repeat' (first | assumption | exact Below.refl _ _ | exact Below.size (by assumption) | (refine Below.setCell ?_ ?_ _) | (refine Below.alloc ?_ ?_ _) | (refine Below.drew ?_) | (refine below_drewN ?_ _) | (refine Below.trans ?_ (Below.mono ‹Below _ _ _› ?_)) | omega | (simp; done) | (simp; omega) | (simp at *; omega)))))
             rintro e w3 ⟨rfl, hb3⟩
             have hq3 : Below wr.heap.size wr w3 := Below.trans (by (repeat' (first | assumption | exact Below.refl _ _ | exact Below.size (by assumption) | (refine Below.setCell ?_ ?_ _) | (refine Below.alloc ?_ ?_ _) | (refine Below.drew ?_) | (refine below_drewN ?_ _) | (refine Below.trans ?_ (Below.mono ‹Below _ _ _› ?_)) | omega | (simp; done) | (simp; omega) | (simp at *; omega)))) (hb3.mono (by simp <;> omega))
             try (have hZ := blk_zero hb3
                  obtain ⟨z0, z1, z2, z3, z4, z5, z6, z7, z8⟩ := node_cells hZ
                  have f0 := hZ.frozen 0
                  have f1 := hZ.frozen 1
                  have f2 := hZ.frozen 2
                  have f3 := hZ.frozen 3
                  have f4 := hZ.frozen 4
                  have f5 := hZ.frozen 5
                  have f6 := hZ.frozen 6
                  have f7 := hZ.frozen 7
                  have f8 := hZ.frozen 8)
             clear hb3))
        all_goals (first
          | (have hB9 := blk_set9 hZ (.string (D.Nm y)) (.int .i64 (D.Kd y)) (.int .i64 (D.Ax y)) (.int .i64 (D.Ay y)) (.int .i64 (D.Iv y)) (.int .i64 (D.Gd y)) (.slice (D.SA y) (D.SN y) (D.SC y)) (.bool (D.Pt y)) (.int .i64 (D.Rs y))
             have hb9 := below_set9 hq3 (.string (D.Nm y)) (.int .i64 (D.Kd y)) (.int .i64 (D.Ax y)) (.int .i64 (D.Ay y)) (.int .i64 (D.Iv y)) (.int .i64 (D.Gd y)) (.slice (D.SA y) (D.SN y) (D.SC y)) (.bool (D.Pt y)) (.int .i64 (D.Rs y))
             have hl9 : wr.heap.size ≤ wr.heap.size := Nat.le_refl _
             clear z0 z1 z2 z3 z4 z5 z6 z7 z8 f0 f1 f2 f3 f4 f5 f6 f7 f8 hZ
             generalize (((((((((w3.setCell ⟨wr.heap.size, 0, none⟩ (.string (D.Nm y))).setCell ⟨wr.heap.size, 1, none⟩ (.int .i64 (D.Kd y))).setCell ⟨wr.heap.size, 2, none⟩ (.int .i64 (D.Ax y))).setCell ⟨wr.heap.size, 3, none⟩ (.int .i64 (D.Ay y))).setCell ⟨wr.heap.size, 4, none⟩ (.int .i64 (D.Iv y))).setCell ⟨wr.heap.size, 5, none⟩ (.int .i64 (D.Gd y))).setCell ⟨wr.heap.size, 6, none⟩ (.slice (D.SA y) (D.SN y) (D.SC y))).setCell ⟨wr.heap.size, 7, none⟩ (.bool (D.Pt y))).setCell ⟨wr.heap.size, 8, none⟩ (.int .i64 (D.Rs y))) = w9 at hB9 hb9 ⊢)
          | (have hB9 := Blk.new w3 59 #[.string (D.Nm y), .int .i64 (D.Kd y), .int .i64 (D.Ax y), .int .i64 (D.Ay y), .int .i64 (D.Iv y), .int .i64 (D.Gd y), .slice (D.SA y) (D.SN y) (D.SC y), .bool (D.Pt y), .int .i64 (D.Rs y)]
             have hb9 := below_alloc_ hq3 (Obj.cells #[.string (D.Nm y), .int .i64 (D.Kd y), .int .i64 (D.Ax y), .int .i64 (D.Ay y), .int .i64 (D.Iv y), .int .i64 (D.Gd y), .slice (D.SA y) (D.SN y) (D.SC y), .bool (D.Pt y), .int .i64 (D.Rs y)] 59)
             have hl9 := hq3.size
             generalize w3.alloc (Obj.cells #[.string (D.Nm y), .int .i64 (D.Kd y), .int .i64 (D.Ax y), .int .i64 (D.Ay y), .int .i64 (D.Iv y), .int .i64 (D.Gd y), .slice (D.SA y) (D.SN y) (D.SC y), .bool (D.Pt y), .int .i64 (D.Rs y)] 59) = w9 at hB9 hb9 ⊢))
        all_goals (go_wp2_with fail; go_meet)
        all_goals exact ⟨_, rfl, hb9, hB9, hl9⟩
      case rest =>
      obtain ⟨X, rfl, HWc, HXc, HXL⟩ := hcut
      generalize wc = wd at HWc HXc ⊢
      have HQd := Lib.hid (HQ.out.trans (HWc.out.mono HQ.out.size))
      have cX4 := HXc.out.cell 4
      have cX5 := HXc.out.cell 5
      simp only [List.getElem?_toArray, List.getElem?_cons_zero, List.getElem?_cons_succ] at cX4 cX5
      clear hs0 HS HD1 S1 HBr HWc HXL k2 k3 k3' HQ HWr
      by_cases g1 : tk < D.Gd y
      · have T1 : decide (tk < D.Gd y) = true := decide_eq_true g1
        by_cases g2 : D.Iv y < bk
        · have T2 : decide (D.Iv y < bk) = true := decide_eq_true g2
          have HE1 : Hid (topF (fun i => D.Gd (ndI D n N i)) i' = D.Gd y) := by show _ = _; rw [HTY.out]; omega
          have HE2 : Hid (botF (fun i => D.Iv (ndI D n N i)) i' = D.Iv y) := by show _ = _; rw [HBY.out]; omega
          clear g1 g2
          go_wp2_with fail
          go_roundw
          case rel => exact ⟨i', HI', by rw [HE1.out], by rw [HE2.out], rfl, HQd⟩
          case measure => exact HMS.out
        · have T2 : decide (D.Iv y < bk) = false := decide_eq_false g2
          have HE1 : Hid (topF (fun i => D.Gd (ndI D n N i)) i' = D.Gd y) := by show _ = _; rw [HTY.out]; omega
          have HE2 : Hid (botF (fun i => D.Iv (ndI D n N i)) i' = bk) := by show _ = _; rw [HBY.out]; omega
          clear g1 g2
          go_wp2_with fail
          go_roundw
          case rel => exact ⟨i', HI', by rw [HE1.out], by rw [HE2.out], rfl, HQd⟩
          case measure => exact HMS.out
      · have T1 : decide (tk < D.Gd y) = false := decide_eq_false g1
        by_cases g2 : D.Iv y < bk
        · have T2 : decide (D.Iv y < bk) = true := decide_eq_true g2
          have HE1 : Hid (topF (fun i => D.Gd (ndI D n N i)) i' = tk) := by show _ = _; rw [HTY.out]; omega
          have HE2 : Hid (botF (fun i => D.Iv (ndI D n N i)) i' = D.Iv y) := by show _ = _; rw [HBY.out]; omega
          clear g1 g2
          go_wp2_with fail
          go_roundw
          case rel => exact ⟨i', HI', by rw [HE1.out], by rw [HE2.out], rfl, HQd⟩
          case measure => exact HMS.out
        · have T2 : decide (D.Iv y < bk) = false := decide_eq_false g2
          have HE1 : Hid (topF (fun i => D.Gd (ndI D n N i)) i' = tk) := by show _ = _; rw [HTY.out]; omega
          have HE2 : Hid (botF (fun i => D.Iv (ndI D n N i)) i' = bk) := by show _ = _; rw [HBY.out]; omega
          clear g1 g2
          go_wp2_with fail
          go_roundw
          case rel => exact ⟨i', HI', by rw [HE1.out], by rw [HE2.out], rfl, HQd⟩
          case measure => exact HMS.out
    · have T0 : decide ((k : Int) < (p : Int)) = false := by simp <;> omega
      have T0' : decide (k < p) = false := decide_eq_false hlt
      obtain rfl : p = k := by have := Hk.out; omega
      have HTB : Hid (-4194304 ≤ pBot D n N p ∧ pBot D n N p ≤ pTop D n N p ∧ pTop D n N p ≤ 4194304) := by
        show _ ∧ _
        have a1 := fun i (hi : i < p) => HGB.out _ (ndI_at (HF.out i hi)).1
        have a2 := topF_le (fun i => D.Gd (ndI D n N i)) 4194304 p (a1 0 HZ2.out.1).2.2 (fun i hi => (a1 i hi).2.2)
        have a3 := botF_ge (fun i => D.Iv (ndI D n N i)) (-4194304) p (a1 0 HZ2.out.1).1 (fun i hi => (a1 i hi).1)
        have a4 : D.Gd (ndI D n N 0) ≤ topF (fun i => D.Gd (ndI D n N i)) p := topF_0 _ p
        have a5 : botF (fun i => D.Iv (ndI D n N i)) p ≤ D.Iv (ndI D n N 0) := botF_0 _ p
        have a6 := (a1 0 HZ2.out.1).2.1
        unfold pTop pBot
        exact ⟨a3, by omega, a2⟩
      have hH2 : (H : Int) ≤ 100 := by have := HRG.out; omega
      have HW4 : Hid (Below w.heap.size w wr) := below_step HW3.out HQ.out
      have HB4 := Lib.hid (HB3.out.call HQ.out)
      have htp : topF (fun i => D.Gd (ndI D n N i)) p = pTop D n N p := rfl
      have hbp : botF (fun i => D.Iv (ndI D n N i)) p = pBot D n N p := rfl
      rw [htp, hbp]
      obtain ⟨tp, htp'⟩ : ∃ z, z = pTop D n N p := ⟨_, rfl⟩
      obtain ⟨bp, hbp'⟩ : ∃ z, z = pBot D n N p := ⟨_, rfl⟩
      rw [← htp', ← hbp'] at HTB ⊢
      have HTP := Lib.hid htp'
      have HBP := Lib.hid hbp'
      clear htp hbp htp' hbp' hlt
      generalize wr = w4 at HW4 HB4 ⊢
      have hmk := run_strs H w4 hH2
      have HR6 : Hid (Blk (w4.alloc (Obj.cells (strsA H (fun _ => ByteArray.empty)) 9)) w4.heap.size 9 (strsA H (fun _ => ByteArray.empty))) := Blk.new w4 _ _
      have HW6 : Hid (Below w.heap.size w (w4.alloc (Obj.cells (strsA H (fun _ => ByteArray.empty)) 9))) := HW4.out.alloc HW4.out.size _
      have HB6 := Lib.hid (HB4.out.alloc (Obj.cells (strsA H (fun _ => ByteArray.empty)) 9))
      have HGL : Hid (w.heap.size < w4.heap.size) := HB4.out.lt
      have HGS : Hid (w4.heap.size < (w4.alloc (Obj.cells (strsA H (fun _ => ByteArray.empty)) 9)).heap.size) := by show _ < _; simp
      go_wp2_with fail
      clear hmk HB4 HB3 HW3 HQ HW4
      generalize w4.alloc (Obj.cells (strsA H (fun _ => ByteArray.empty)) 9) = w5 at HR6 HW6 HB6 HGS ⊢
      generalize w4.heap.size = G at HR6 HGL HGS ⊢
      go_loopw [19] (fun u wr => ∃ j : Nat, Hid (j ≤ WD) ∧ u = .int .i64 j ∧ Hid (Below G w5 wr) ∧ Hid (Blk wr G 9 (strsA H (fun r => prow D n N p Hi WD (H : Int) (r : Int) j)))) (fun u _ => WD - (RowKit.intOf u).toNat)
      case atStart => exact ⟨0, Nat.zero_le _, rfl, Below.refl _ _, by show Blk _ _ _ _; rw [strsA_congr (Y := fun _ => ByteArray.empty) (fun r _ => prow_zero _ _ _ _ _ _ _ _)]; exact HR6.out⟩
      case round =>
        obtain ⟨j, Hj, rfl, HQ, HRq⟩ := hrel
        by_cases hlt : j < WD
        · have T0 : decide ((j : Int) < (WD : Int)) = true := by simp <;> omega
          have T0' : decide (j < WD) = true := decide_eq_true hlt
          obtain ⟨j', hj'⟩ : ∃ z, z = j + 1 := ⟨_, rfl⟩
          have x0 : IntKind.i64.wrap ((j : Int) + 1) = (j' : Int) := by have := HRG.out; rw [IntKind.wrap_i64]; omega
          have HMS : Hid (WD - (RowKit.intOf (Value.int .i64 (j' : Int))).toNat < WD - (RowKit.intOf (Value.int .i64 (j : Int))).toNat) := by show _ < _; simp [RowKit.intOf]; omega
          have HJ' : Hid (j' ≤ WD) := by show j' ≤ WD; omega
          have HJE : Hid (j' = j + 1) := hj'
          have jj0 : (0 : Int) ≤ (j : Int) := by omega
          have jj1 : (j : Int) < (WD : Int) := by omega
          have HWr : Hid (Below w.heap.size w wr) := HW6.out.trans (HQ.out.mono (by have := HGL.out; omega))
          obtain ⟨jp, hjp⟩ : ∃ z, z = j * p := ⟨_, rfl⟩
          obtain ⟨id, hid⟩ : ∃ z, z = jp / WD := ⟨_, rfl⟩
          have hidp : id < p := by rw [hid, hjp]; exact Nat.div_lt_of_lt_mul (Nat.mul_lt_mul_of_pos_right hlt HZ2.out.1)
          have hjb : jp ≤ 6000 := by
            rw [hjp]
            exact Nat.le_trans (Nat.mul_le_mul (by have := HRG.out; omega : j ≤ 200) HZ2.out.2.1) (by decide)
          have hidb : id ≤ 30 := by have := HZ2.out; omega
          have x1 : (j : Int) * (p : Int) = (jp : Int) := by rw [hjp, Int.natCast_mul]
          have x2 : IntKind.i64.wrap (jp : Int) = (jp : Int) := by rw [IntKind.wrap_i64]; omega
          have x3 : IntKind.i64.wrap ((jp : Int).tdiv (WD : Int)) = (id : Int) := by
            rw [Int.tdiv_eq_ediv_of_nonneg (by omega), ← Int.natCast_ediv, ← hid, IntKind.wrap_i64]; omega
          have x4 : ((WD : Int) == 0) = false := by have := HRG.out; simp; omega
          have x5 : ¬ (WD : Int) = 0 := by have := HRG.out; omega
          have x5' : ¬ WD = 0 := by have := HRG.out; omega
          have x6 : jp / WD = id := hid.symm
          have x7 : (jp : Int) / (WD : Int) = (id : Int) := by rw [← Int.natCast_ediv, x6]
          have x8 : IntKind.i64.wrap (id : Int) = (id : Int) := by rw [IntKind.wrap_i64]; omega
          have id0 : (0 : Int) ≤ (id : Int) := by omega
          have id1 : (id : Int) < (p : Int) := by omega
          have id2 : id < p := hidp
          obtain ⟨bS', oS', e1, hbS, cS⟩ := (HN.out.below (Nat.le_refl _) HWr.out).at hidp
          cases e1
          obtain ⟨hx, hx2, hx3⟩ := ndI_at (HF.out id hidp)
          obtain ⟨y, hyd⟩ : ∃ z, z = ndI D n N id := ⟨_, rfl⟩
          rw [← hyd] at hx hx2 hx3
          have HYX : Hid (y = ndI D n N (j * p / WD)) := by show y = _; rw [hyd, hid, hjp]
          have HYN : Hid (y < n) := hx
          have k2 : (0 : Int) ≤ (y : Int) := by omega
          have k3 : (y : Int) < (n : Int) := by omega
          have k3' : y < n := hx
          have k4' : y < q := by have := HZ2.out.2.2.1; omega
          have k4 : (y : Int) < (q : Int) := by omega
          have S1 := Lib.hid fun w hD => SFN.out (N id) w hD
          rw [hx2] at S1
          have HD1 := Lib.hid (HD.out.below (Nat.le_refl _) HWr.out)
          have HBr := Lib.hid (HB6.out.below HQ.out HGL.out)
          obtain ⟨d0, d1⟩ := blk2 HBr.out
          have hB := HBr.out.lt
          have HS : Hid (∀ U, Below wr.heap.size wr U → U.cell? ⟨w.heap.size, 0, none⟩ = some (.slice (some ⟨b, off, none⟩) n nc) ∧ U.cell? ⟨w.heap.size, 1, none⟩ = some (.slice LA m lc) ∧ U.cell? ⟨bS, oS + id, none⟩ = some (.string (N id))) := fun U hU => ⟨(hU.cell (p := ⟨w.heap.size, 0, none⟩) hB).trans d0, (hU.cell (p := ⟨w.heap.size, 1, none⟩) hB).trans d1, (hU.cell (p := ⟨bS, oS + id, none⟩) hbS).trans cS⟩
          have hs0 := HS.out wr (Below.refl _ _)
          clear hlt hj' hjp hid hidp hidb hjb hyd hx hx2 hx3 hbS hB d0 d1 cS
          go_upto_region 20 with fail
          go_region_held3 (fun U => U.cell? ⟨w.heap.size, 0, none⟩ = some (.slice (some ⟨b, off, none⟩) n nc) ∧ U.cell? ⟨w.heap.size, 1, none⟩ = some (.slice LA m lc) ∧ U.cell? ⟨bS, oS + id, none⟩ = some (.string (N id))) (first
            | with_reducible exact hs0
            | exact HS.out _ (by (repeat' (first | assumption | exact Below.refl _ _ | exact Below.size (by assumption) | (refine Below.setCell ?_ ?_ _) | (refine Below.alloc ?_ ?_ _) | (refine Below.drew ?_) | (refine below_drewN ?_ _) | (refine Below.trans ?_ (Below.mono ‹Below _ _ _› ?_)) | omega | (simp; done) | (simp; omega) | (simp at *; omega))))) (first
            | (go_at_call 18
               with_reducible refine (S1.out _ ?_).mono ?_
               focus (exact HD1.out.below (Nat.le_refl _) (by (repeat' (first | assumption | exact Below.refl _ _ | exact Below.size (by assumption) | (refine Below.setCell ?_ ?_ _) | (refine Below.alloc ?_ ?_ _) | (refine Below.drew ?_) | (refine below_drewN ?_ _) | (refine Below.trans ?_ (Below.mono ‹Below _ _ _› ?_)) | omega | (simp; done) | (simp; omega) | (simp at *; omega)))))
               rintro e w6 ⟨rfl, hb6⟩
               have hq6 : Below wr.heap.size wr w6 := Below.trans (by (repeat' (first | assumption | exact Below.refl _ _ | exact Below.size (by assumption) | (refine Below.setCell ?_ ?_ _) | (refine Below.alloc ?_ ?_ _) | (refine Below.drew ?_) | (refine below_drewN ?_ _) | (refine Below.trans ?_ (Below.mono ‹Below _ _ _› ?_)) | omega | (simp; done) | (simp; omega) | (simp at *; omega)))) (hb6.mono (by simp <;> omega))
               clear hb6))
          have HQ6 := Lib.hid (HQ.out.trans (hq6.mono (by have := HRq.out.lt; omega)))
          have HR6b := Lib.hid (HRq.out.call hq6)
          have HW6b := Lib.hid (below_step HWr.out hq6)
          have HB6b := Lib.hid (HBr.out.call hq6)
          clear hs0 HS HD1 S1 HBr HWr hq6 x1 x2 x3 x4 x5 x5' x6 x7 x8 id0 id1 id2 T0 T0' HQ HRq
          obtain ⟨b', off', e2, hb, hC, htab⟩ := (HD.out.below (Nat.le_refl _) HW6b.out).at HYN.out
          cases e2
          have c0 := hC 0 _ rfl
          have c1 := hC 1 _ rfl
          have c2 := hC 2 _ rfl
          have c3 := hC 3 _ rfl
          have c4 := hC 4 _ rfl
          have c5 := hC 5 _ rfl
          have c6 := hC 6 _ rfl
          have c7 := hC 7 _ rfl
          have c8 := hC 8 _ rfl
          simp only [Nat.add_zero] at c0
          obtain ⟨d0, d1⟩ := blk2 HB6b.out
          have hB := HB6b.out.lt
          obtain ⟨bv, ov, rfl, hbv, cl0, cl1⟩ := (HV.out.below (Nat.le_refl _) HW6b.out).at k4'
          have HS : Hid (∀ U, Below w6.heap.size w6 U → U.cell? ⟨w.heap.size, 0, none⟩ = some (.slice (some ⟨b, off, none⟩) n nc) ∧ U.cell? ⟨b, off + y * 9, none⟩ = some (.string (D.Nm y)) ∧ U.cell? ⟨b, off + y * 9 + 1, none⟩ = some (.int .i64 (D.Kd y)) ∧ U.cell? ⟨b, off + y * 9 + 2, none⟩ = some (.int .i64 (D.Ax y)) ∧ U.cell? ⟨b, off + y * 9 + 3, none⟩ = some (.int .i64 (D.Ay y)) ∧ U.cell? ⟨b, off + y * 9 + 4, none⟩ = some (.int .i64 (D.Iv y)) ∧ U.cell? ⟨b, off + y * 9 + 5, none⟩ = some (.int .i64 (D.Gd y)) ∧ U.cell? ⟨b, off + y * 9 + 6, none⟩ = some (.slice (D.SA y) (D.SN y) (D.SC y)) ∧ U.cell? ⟨b, off + y * 9 + 7, none⟩ = some (.bool (D.Pt y)) ∧ U.cell? ⟨b, off + y * 9 + 8, none⟩ = some (.int .i64 (D.Rs y)) ∧ U.cell? ⟨bv, ov + y * 2, none⟩ = some (.int .i64 (Lo y)) ∧ U.cell? ⟨bv, ov + y * 2 + 1, none⟩ = some (.int .i64 (Hi y))) := fun U hU => ⟨(hU.cell (p := ⟨w.heap.size, 0, none⟩) hB).trans d0, (hU.cell (p := ⟨b, off + y * 9, none⟩) hb).trans c0, (hU.cell (p := ⟨b, off + y * 9 + 1, none⟩) hb).trans c1, (hU.cell (p := ⟨b, off + y * 9 + 2, none⟩) hb).trans c2, (hU.cell (p := ⟨b, off + y * 9 + 3, none⟩) hb).trans c3, (hU.cell (p := ⟨b, off + y * 9 + 4, none⟩) hb).trans c4, (hU.cell (p := ⟨b, off + y * 9 + 5, none⟩) hb).trans c5, (hU.cell (p := ⟨b, off + y * 9 + 6, none⟩) hb).trans c6, (hU.cell (p := ⟨b, off + y * 9 + 7, none⟩) hb).trans c7, (hU.cell (p := ⟨b, off + y * 9 + 8, none⟩) hb).trans c8, (hU.cell (p := ⟨bv, ov + y * 2, none⟩) hbv).trans cl0, (hU.cell (p := ⟨bv, ov + y * 2 + 1, none⟩) hbv).trans cl1⟩
          have hs0 := HS.out w6 (Below.refl _ _)
          have SCO := Lib.hid fun w => rcol (D.Nm y) (D.Kd y) (D.Ax y) (D.Ay y) (D.Iv y) (D.Gd y) (D.SA y) (D.SN y) (D.SC y) (D.Pt y) (D.Rs y) (Lo y) (Hi y) tp bp H HRG.out.2.2 HTB.out w
          have HVL : Hid (bv < w6.heap.size) := hbv
          clear hC htab hb hbv hB c0 c1 c2 c3 c4 c5 c6 c7 c8 d0 d1 cl0 cl1
          go_upto_region 21 with fail
          go_region_held3 (fun U => U.cell? ⟨w.heap.size, 0, none⟩ = some (.slice (some ⟨b, off, none⟩) n nc) ∧ U.cell? ⟨b, off + y * 9, none⟩ = some (.string (D.Nm y)) ∧ U.cell? ⟨b, off + y * 9 + 1, none⟩ = some (.int .i64 (D.Kd y)) ∧ U.cell? ⟨b, off + y * 9 + 2, none⟩ = some (.int .i64 (D.Ax y)) ∧ U.cell? ⟨b, off + y * 9 + 3, none⟩ = some (.int .i64 (D.Ay y)) ∧ U.cell? ⟨b, off + y * 9 + 4, none⟩ = some (.int .i64 (D.Iv y)) ∧ U.cell? ⟨b, off + y * 9 + 5, none⟩ = some (.int .i64 (D.Gd y)) ∧ U.cell? ⟨b, off + y * 9 + 6, none⟩ = some (.slice (D.SA y) (D.SN y) (D.SC y)) ∧ U.cell? ⟨b, off + y * 9 + 7, none⟩ = some (.bool (D.Pt y)) ∧ U.cell? ⟨b, off + y * 9 + 8, none⟩ = some (.int .i64 (D.Rs y)) ∧ U.cell? ⟨bv, ov + y * 2, none⟩ = some (.int .i64 (Lo y)) ∧ U.cell? ⟨bv, ov + y * 2 + 1, none⟩ = some (.int .i64 (Hi y))) (first
            | with_reducible exact hs0
            | exact HS.out _ (by (repeat' (first | assumption | exact Below.refl _ _ | exact Below.size (by assumption) | (refine Below.setCell ?_ ?_ _) | (refine Below.alloc ?_ ?_ _) | (refine Below.drew ?_) | (refine below_drewN ?_ _) | (refine Below.trans ?_ (Below.mono ‹Below _ _ _› ?_)) | omega | (simp; done) | (simp; omega) | (simp at *; omega))))) (first
            | (go_at_call 42
               with_reducible refine (SCO.out _).mono ?_
               rintro e w7 ⟨g7, rfl, hl7, hu7, hr7, hb7⟩
               have hq7 : Below w6.heap.size w6 w7 := Below.trans (by (repeat' (first | assumption | exact Below.refl _ _ | exact Below.size (by assumption) | (refine Below.setCell ?_ ?_ _) | (refine Below.alloc ?_ ?_ _) | (refine Below.drew ?_) | (refine below_drewN ?_ _) | (refine Below.trans ?_ (Below.mono ‹Below _ _ _› ?_)) | omega | (simp; done) | (simp; omega) | (simp at *; omega)))) (hb7.mono (by simp <;> omega))
               have hl7' : w6.heap.size ≤ g7 := Nat.le_trans (by simp <;> omega) hl7
               clear hb7 hl7))
          have HQ7 := Lib.hid (HQ6.out.trans (hq7.mono (by have := HR6b.out.lt; omega)))
          have HR7 := Lib.hid (HR6b.out.call hq7)
          have HG7 : Hid (G ≠ g7) := by show G ≠ g7; have := HR6b.out.lt; omega
          have HC7 := Lib.hid hr7
          clear hs0 HS HB6b HW6b HR6b HQ6 hq7 hl7' hu7 hr7 SCO HVL
          have HR8 : Hid (Blk w7 G 9 (strsA H (fun r' => if r' < 0 then prow D n N p Hi WD (H : Int) (r' : Int) j' else prow D n N p Hi WD (H : Int) (r' : Int) j))) := by
            show Blk _ _ _ _
            rw [strsA_congr (Y := fun r' : Nat => prow D n N p Hi WD (H : Int) (r' : Int) j) (fun r _ => if_neg (Nat.not_lt_zero _))]
            exact HR7.out
          clear HR7
          go_wp2_with fail
          go_loopw [22] (fun u wr => ∃ r : Nat, Hid (r ≤ H) ∧ u = .int .i64 r ∧ Hid (Below G w5 wr) ∧ Hid (Blk wr G 9 (strsA H (fun r' => if r' < r then prow D n N p Hi WD (H : Int) (r' : Int) j' else prow D n N p Hi WD (H : Int) (r' : Int) j))) ∧ Hid (RowOf wr g7 H (fun r => ((chr tp bp (H : Int) (D.Gd y) (D.Iv y) (Hi y) (r : Int)).toNat : Int)))) (fun u _ => H - (RowKit.intOf u).toNat)
          case atStart => exact ⟨0, Nat.zero_le _, rfl, HQ7.out, HR8.out, HC7.out⟩
          case round =>
            obtain ⟨r, Hr, rfl, HQ, HRq, HCq⟩ := hrel
            by_cases hlt : r < H
            · have T0 : decide ((r : Int) < (H : Int)) = true := by simp <;> omega
              have T0' : decide (r < H) = true := decide_eq_true hlt
              obtain ⟨r', hr'⟩ : ∃ z, z = r + 1 := ⟨_, rfl⟩
              have y0 : IntKind.i64.wrap ((r : Int) + 1) = (r' : Int) := by have := HRG.out; rw [IntKind.wrap_i64]; omega
              have HM9 : Hid (H - (RowKit.intOf (Value.int .i64 (r' : Int))).toNat < H - (RowKit.intOf (Value.int .i64 (r : Int))).toNat) := by show _ < _; simp [RowKit.intOf]; omega
              have HI9 : Hid (r' ≤ H) := by show r' ≤ H; omega
              have HLT := Lib.hid hlt
              have b0 : (0 : Int) ≤ (r : Int) := by omega
              have b1 : (r : Int) < (H : Int) := by omega
              have b2 : r < H := hlt
              have cR := HRq.out.cell r
              rw [strsA_at hlt, if_neg (Nat.lt_irrefl _)] at cR
              have fR := HRq.out.frozen r
              obtain ⟨ch, hch⟩ : ∃ z, z = chr tp bp (H : Int) (D.Gd y) (D.Iv y) (Hi y) (r : Int) := ⟨_, rfl⟩
              have cB : wr.cell? ⟨g7, r, none⟩ = some (.int .u8 (ch.toNat : Int)) := by rw [hch]; exact (HCq.out r hlt).1
              have HPE : Hid (prow D n N p Hi WD (H : Int) (r : Int) j' = prow D n N p Hi WD (H : Int) (r : Int) j ++ bsx [ch]) := by
                show _ = _
                rw [HJE.out, prow_one, hch]
                unfold pch
                rw [← HYX.out, ← HTP.out, ← HBP.out]
              have hps := prow_size D n N p Hi WD (H : Int) (r : Int) j
              obtain ⟨l1, hl1⟩ : ∃ z, z = bsx [ch] := ⟨_, rfl⟩
              have hl1s : l1.size = 1 := by rw [hl1]; rfl
              have hsl : ∀ U, (Instr.slice 81 (.slice (some ⟨g7, 0, none⟩) H H) (some (.int .i64 (r : Int))) (some (.int .i64 (r' : Int))) none).run Tryz.prog U = .ok (.slice (some ⟨g7, r, none⟩) 1 (H - r)) U := fun U => by
                have := Lib.run_slice_window (P := Tryz.prog) U 81 5 Tryz.underlying81 sizeU8 g7 0 H H r r' (by omega) (by omega)
                rw [Nat.zero_add, show r' - r = 1 by omega] at this
                exact this
              have hcv : (convert 81 9 (.slice (some ⟨g7, r, none⟩) 1 (H - r))).run Tryz.prog wr.drew = .ok (.string l1) wr.drew := run_conv1 wr.drew g7 r ch (H - r) l1 hl1 cB
              rw [← hl1] at HPE
              generalize prow D n N p Hi WD (H : Int) (r : Int) j = s0 at cR HPE hps
              have z0 : (s0.size : Int) ≤ 8388608 := by have := Hj.out; have := HRG.out; omega
              have z1 : (l1.size : Int) ≤ 8388608 := by omega
              have HQs : Hid (Below G w5 (wr.setCell ⟨G, r, none⟩ (.string (s0 ++ l1))).drew) := below_drew1 (HQ.out.setCell (p := ⟨G, r, none⟩) (Nat.le_refl _) _)
              have HRs : Hid (Blk (wr.setCell ⟨G, r, none⟩ (.string (s0 ++ l1))).drew G 9 (strsA H (fun r'' => if r'' < r' then prow D n N p Hi WD (H : Int) (r'' : Int) j' else prow D n N p Hi WD (H : Int) (r'' : Int) j))) := by
                have h := HRq.out.set_ r (.string (s0 ++ l1))
                rw [strsA_set hlt, ← HPE.out] at h
                show Blk (wr.setCell ⟨G, r, none⟩ (.string (s0 ++ l1))) _ _ _
                rw [← HPE.out]
                refine (congrArg (Blk _ G 9) (strsA_congr (fun r'' _ => ?_))).mp h
                rw [hr']
                by_cases e1 : r'' = r
                · rw [if_pos e1, if_pos (by omega), e1]
                · rw [if_neg e1]
                  by_cases e2 : r'' < r
                  · rw [if_pos e2, if_pos (by omega)]
                  · rw [if_neg e2, if_neg (by omega)]
              have HCs : Hid (RowOf (wr.setCell ⟨G, r, none⟩ (.string (s0 ++ l1))).drew g7 H (fun r => ((chr tp bp (H : Int) (D.Gd y) (D.Iv y) (Hi y) (r : Int)).toNat : Int))) := HCq.out.block (Below.heap_setCell wr _ _ g7 (Ne.symm HG7.out))
              clear hlt hr' hch hps hl1 hl1s HPE cB
              go_upto_region 25 with fail
              go_region
              go_wp2_with fail
              go_roundw
              case rel => exact ⟨r', HI9, rfl, HQs, HRs, HCs⟩
              case measure => exact HM9.out
            · have T0 : decide ((r : Int) < (H : Int)) = false := by simp <;> omega
              have T0' : decide (r < H) = false := decide_eq_false hlt
              have HRe : Hid (Blk wr G 9 (strsA H (fun r => prow D n N p Hi WD (H : Int) (r : Int) j'))) := by
                show Blk _ _ _ _
                rw [← strsA_congr (fun r' (hr' : r' < H) => if_pos (by have := Hr.out; omega : r' < r))]
                exact HRq.out
              clear hlt
              go_wp2_with fail
              go_roundw
              case rel => exact ⟨j', HJ', rfl, HQ, HRe⟩
              case measure => exact HMS.out
        · have T0 : decide ((j : Int) < (WD : Int)) = false := by simp <;> omega
          have T0' : decide (j < WD) = false := decide_eq_false hlt
          obtain rfl : WD = j := by have := Hj.out; omega
          clear hlt
          go_wp2_with fail
          go_ret2
          refine ⟨_, 0, some ⟨G, 0, none⟩, H, H, HPI.out, rfl, (prows_len _ _ _ _ _ _ _ _).symm, Nat.le_refl _, ⟨by have := HRG.out; omega, .inr ⟨G, 0, rfl, HRq.out.lt, fun k hk => ?_⟩⟩, HW6.out.trans (HQ.out.mono (by have := HGL.out; omega))⟩
          have h := HRq.out.cell k
          rw [strsA_at hk] at h
          rw [Nat.zero_add, h]
          congr 2
          unfold prows
          simp [hk]
end Go.Proofs.YtdgfljkhnifemaaGreatDoor

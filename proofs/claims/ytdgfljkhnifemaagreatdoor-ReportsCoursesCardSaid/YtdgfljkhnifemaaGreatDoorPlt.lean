/- Plot of package reports. -/
import Derived.Test.YtdgfljkhnifemaaGreatDoorCrs
import Derived.Test.YtdgfljkhnifemaaGreatDoorValS
import Derived.Test.YtdgfljkhnifemaaGreatDoorMgT
import Derived.Test.YtdgfljkhnifemaaGreatDoorPlR
import Derived.BigRegion
namespace Go.Proofs.YtdgfljkhnifemaaGreatDoor
open Go.RowKit
set_option linter.unusedVariables false
set_option linter.unusedSimpArgs false

theorem topF_0 (f : Nat → Int) : ∀ p, f 0 ≤ topF f p
  | 0 => Int.le_refl _
  | p + 1 => by have := topF_0 f p; show _ ≤ max _ _; omega
theorem botF_0 (f : Nat → Int) : ∀ p, botF f p ≤ f 0
  | 0 => Int.le_refl _
  | p + 1 => by have := botF_0 f p; show min _ _ ≤ _; omega
theorem topF_le (f : Nat → Int) (M : Int) : ∀ p, f 0 ≤ M → (∀ i, i < p → f i ≤ M) → topF f p ≤ M
  | 0, h, _ => h
  | p + 1, h0, h => by have := topF_le f M p h0 (fun i hi => h i (by omega)); have := h p (by omega); show max _ _ ≤ _; omega
theorem botF_ge (f : Nat → Int) (M : Int) : ∀ p, M ≤ f 0 → (∀ i, i < p → M ≤ f i) → M ≤ botF f p
  | 0, h, _ => h
  | p + 1, h0, h => by have := botF_ge f M p h0 (fun i hi => h i (by omega)); have := h p (by omega); show _ ≤ min _ _; omega
theorem run_convert_whole' {P : Program} (w : World) (src e dst : TypeId) (hs : P.underlying src = some (.slice e)) (he : P.underlying e = some (.int .u8)) (hd : P.underlying dst = some .string) (b : Nat) (s : ByteArray) (hc : Lib.Bytes w b 0 s) (wd cap : Nat) (h : s.size = wd) :
    (convert src dst (.slice (some ⟨b, 0, none⟩) wd cap)).run P w = .ok (.string s) w := by
  subst h
  exact Lib.run_convert_whole w src e dst hs he hd b 0 s hc cap
theorem below_drew1 {B : Nat} {a w : World} (h : Below B a w) : Below B a w.drew := ⟨h.os, h.tape, h.output, h.size, h.block⟩
theorem infoRow : (Tryz.prog.info? 81).map (fun i => (i.zero, i.size, i.bytes)) = some (some (.slice none 0 0), 1, 24) := by kernel_rfl
theorem run_rows (H WD : Nat) (w : World) (h : (H : Int) ≤ 100) : (Instr.makeSlice 80 (.int .i64 (H : Int)) (.int .i64 (H : Int))).run Tryz.prog w = .ok (.slice (some ⟨w.heap.size, 0, none⟩) H H) (w.alloc (.cells (rowsA H WD id 0) 81)) := by
  obtain ⟨i, hi, hzz⟩ := Option.map_eq_some_iff.1 infoRow
  simp only [Prod.mk.injEq] at hzz
  obtain ⟨hz, hs, hb⟩ := hzz
  have hr := run_makeSlice (P := Tryz.prog) w 80 81 i (.slice none 0 0) Tryz.underlying80 hi hz .i64 .i64 (H : Int) (H : Int) (by omega) (by omega) (by rw [hs]; omega) (by rw [hb]; omega) (by omega)
  rw [Int.toNat_natCast, hs, Nat.mul_one] at hr
  have e : madeCells (Value.slice none 0 0).cells H = Array.replicate H (Value.slice none 0 0) := by
    apply Array.toList_inj.1
    rw [show (Value.slice none 0 0).cells = #[Value.slice none 0 0] from rfl, toList_madeCells_one]
    simp
  rw [hr, rowsA_zero, e]
theorem blk_pair1 (w : World) (t : TypeId) (v u : Value) : Blk ((w.alloc (.cells #[v] t)).alloc (.cells #[u] t)).drew w.heap.size t #[v] := (Blk.new w t #[v]).alloc (.cells #[u] t)
theorem blk_pair2 (w : World) (t : TypeId) (v u : Value) : Blk ((w.alloc (.cells #[v] t)).alloc (.cells #[u] t)).drew (w.heap.size + 1) t #[u] := by
  have h := Blk.new (w.alloc (.cells #[v] t)) t #[u]
  have e : (w.alloc (.cells #[v] t)).heap.size = w.heap.size + 1 := by simp
  rw [e] at h
  exact h
set_option maxRecDepth 100000 in
set_option maxHeartbeats 32000000 in
theorem tPlot (NA LA SA VA : Option Addr) (n nc m lc p pc q qc : Nat) (D : Nds) (K : Lks) (N : Nat → ByteArray) (Lo Hi : Nat → Int) (wd hh : Int) (hz : NetSz D n K m) (p20 : p ≤ 2000) (hpc : p ≤ pc) (q20 : q ≤ 2000) (hpp : p ≤ 30 ∨ 300 < p) (w : World) (hD : NdIn w NA n D) (hK : LkIn w LA m K) (hN : StrIn w SA p N) (hV : TabIn w VA q Lo Hi) :
    Calls Tryz.prog 10 #[.agg #[.slice NA n nc, .slice LA m lc], .slice SA p pc, .slice VA q qc, .int .i64 wd, .int .i64 hh] w (LinPost w (PltIs D n K m N p q Lo Hi wd hh)) := by
  have HD := Lib.hid hD
  have HK := Lib.hid hK
  have HN := Lib.hid hN
  have HV := Lib.hid hV
  have HZ := Lib.hid hz
  have H0 : Hid (Below w.heap.size w ((w.alloc (Obj.cells #[.slice NA n nc, .slice LA m lc] 25)).alloc (Obj.cells #[.int .i64 hh] 3))) := ((Below.refl _ w).alloc (Nat.le_refl _) _).alloc (by simp) _
  have HB0 : Hid (Blk ((w.alloc (Obj.cells #[.slice NA n nc, .slice LA m lc] 25)).alloc (Obj.cells #[.int .i64 hh] 3)) w.heap.size 25 #[.slice NA n nc, .slice LA m lc]) := (Blk.new w 25 #[.slice NA n nc, .slice LA m lc]).alloc _
  have HG0 : Hid (Blk ((w.alloc (Obj.cells #[.slice NA n nc, .slice LA m lc] 25)).alloc (Obj.cells #[.int .i64 hh] 3)) (w.heap.size + 1) 3 #[.int .i64 hh]) := (by show Blk _ _ _ _; have := Blk.new (w.alloc (Obj.cells #[.slice NA n nc, .slice LA m lc] 25)) 3 #[.int .i64 hh]; simpa using this)
  have sv := fun w hD hK hV => tvalid55 NA LA VA n nc m lc q qc D K Lo Hi hz q20 w hD hK hV
  have scr := fun w hD hK hN => tcrs NA LA SA VA n nc m lc p pc q qc D K N hz.n2 hz.m2 p20 hpc w hD hK hN
  by_cases g0 : vlP D n K m q Lo Hi
  case neg =>
    rw [boolOf_false g0] at sv
    have SV := Lib.hid sv
    have HR : Hid (PltIs D n K m N p q Lo Hi wd hh [] 1) := .arg g0
    clear sv scr g0 hz hD hK hN hV p20 hpc q20 hpp
    go_enter Tryz.func10, Tryz.ntmps10
    go_wp2_with (first
      | (go_at_call 28
         with_reducible refine (SV.out _ ?_ ?_ ?_).mono ?_
         focus (exact HD.out.below (Nat.le_refl _) H0.out)
         focus (exact HK.out.below (Nat.le_refl _) H0.out)
         focus (exact HV.out.below (Nat.le_refl _) H0.out)
         rintro e w1 ⟨rfl, hb1⟩
         have H1 := Lib.hid (below_step H0.out hb1)
         have HB1 := Lib.hid (HB0.out.call hb1)
         have HG1 := Lib.hid (HG0.out.call hb1)
         obtain ⟨d0, d1⟩ := blk2 HB1.out
         clear hb1))

    go_ret2
    exact lin_nil HR.out H1.out
  rw [boolOf_true g0] at sv
  have SV := Lib.hid sv
  have SX : Hid (∀ w, NdIn w NA n D → LkIn w LA m K → StrIn w SA p N → Calls Tryz.prog 30 #[.agg #[.slice NA n nc, .slice LA m lc], .slice SA p pc, .slice VA q qc] w (CrsPost D n K m N p q w)) := scr
  by_cases g2 : crsE D n K m N p q = 0
  case neg =>
    have HR : Hid (PltIs D n K m N p q Lo Hi wd hh [] (crsE D n K m N p q)) := .crs g0 g2
    have HNE := Lib.hid g2
    have t1 : (crsE D n K m N p q == 0) = false := by simpa using g2
    have t1n : (crsE D n K m N p q != 0) = true := by simpa using g2
    clear sv scr g0 g2 hz hD hK hN hV p20 hpc q20 hpp
    go_enter Tryz.func10, Tryz.ntmps10
    go_wp2_with (first
      | (go_at_call 28
         with_reducible refine (SV.out _ ?_ ?_ ?_).mono ?_
         focus (exact HD.out.below (Nat.le_refl _) H0.out)
         focus (exact HK.out.below (Nat.le_refl _) H0.out)
         focus (exact HV.out.below (Nat.le_refl _) H0.out)
         rintro e w1 ⟨rfl, hb1⟩
         have H1 := Lib.hid (below_step H0.out hb1)
         have HB1 := Lib.hid (HB0.out.call hb1)
         have HG1 := Lib.hid (HG0.out.call hb1)
         obtain ⟨d0, d1⟩ := blk2 HB1.out
         clear hb1)
      | (go_at_call 30
         with_reducible refine (SX.out _ ?_ ?_ ?_).mono ?_
         focus (exact HD.out.below (Nat.le_refl _) H1.out)
         focus (exact HK.out.below (Nat.le_refl _) H1.out)
         focus (exact HN.out.below (Nat.le_refl _) H1.out)
         rintro e w3 ⟨hb3, hx3⟩
         have H3 := Lib.hid (below_step H1.out hb3)
         have HB3 := Lib.hid (HB1.out.call hb3)
         have HG3 := Lib.hid (HG1.out.call hb3)
         obtain ⟨d0, d1⟩ := blk2 HB3.out
         clear hb3
         have he : e = .returned (.tuple #[.pointer none, .int .i64 (crsE D n K m N p q)]) := by
           rcases hx3 with ⟨_, h⟩ | ⟨h, _⟩
           · exact h
           · exact absurd h HNE.out
         clear hx3
         subst he))

    go_ret2
    exact lin_nil HR.out H3.out
  have HGX := Lib.hid g0
  have HG2 := Lib.hid g2
  obtain ⟨z1, z2, z3, z4, z5⟩ := crsE_zero g2
  have HZ2 : Hid (1 ≤ p ∧ p ≤ 30 ∧ q = n ∧ n ≤ 2000 ∧ m ≤ 2000) := ⟨z2, by omega, z1, hz.n2, hz.m2⟩
  have HF := Lib.hid z4
  clear sv scr hz hD hK hN hV p20 hpc q20 hpp z1 z2 z3 z4 z5
  by_cases r1 : wd < 1
  case pos =>
    have HR : Hid (PltIs D n K m N p q Lo Hi wd hh [] 2) := .range g0 g2 (by omega)
    have t1 : decide (wd < 1) = true := decide_eq_true (by omega)
    clear g0 g2 r1
    go_enter Tryz.func10, Tryz.ntmps10
    go_wp2_with (first
      | (go_at_call 28
         with_reducible refine (SV.out _ ?_ ?_ ?_).mono ?_
         focus (exact HD.out.below (Nat.le_refl _) H0.out)
         focus (exact HK.out.below (Nat.le_refl _) H0.out)
         focus (exact HV.out.below (Nat.le_refl _) H0.out)
         rintro e w1 ⟨rfl, hb1⟩
         have H1 := Lib.hid (below_step H0.out hb1)
         have HB1 := Lib.hid (HB0.out.call hb1)
         have HG1 := Lib.hid (HG0.out.call hb1)
         obtain ⟨d0, d1⟩ := blk2 HB1.out
         clear hb1)
      | (go_at_call 30
         with_reducible refine (SX.out _ ?_ ?_ ?_).mono ?_
         focus (exact HD.out.below (Nat.le_refl _) H1.out)
         focus (exact HK.out.below (Nat.le_refl _) H1.out)
         focus (exact HN.out.below (Nat.le_refl _) H1.out)
         rintro e w3 ⟨hb3, hx3⟩
         have H3 := Lib.hid (below_step H1.out hb3)
         have HB3 := Lib.hid (HB1.out.call hb3)
         have HG3 := Lib.hid (HG1.out.call hb3)
         obtain ⟨d0, d1⟩ := blk2 HB3.out
         clear hb3
         have hx4 : ∃ g A1 c1 A2 c2, e = .returned (.tuple #[.pointer (some ⟨g, 0, none⟩), .int .i64 0]) ∧ Blk w3 g 75 #[.slice A1 p c1, .slice A2 (p - 1) c2] ∧ IntIn w3 A1 p (ndC D n N) ∧ IntIn w3 A2 (p - 1) (lkC K m N) := by
           rcases hx3 with ⟨h, _⟩ | ⟨_, h⟩
           · exact absurd HG2.out h
           · exact h
         clear hx3
         obtain ⟨g, A1, c1, A2, c2, rfl, hc1, hc2, hc3⟩ := hx4
         have HCO := Lib.hid hc1
         have HI1 := Lib.hid hc2
         clear hc1 hc2 hc3
         obtain ⟨q0, q1⟩ := blk2 HCO.out
         have d2 := HG3.out.cell 0
         simp only [List.getElem?_toArray, List.getElem?_cons_zero] at d2))

    go_ret2
    exact lin_nil HR.out H3.out
  have t1 : decide (wd < 1) = false := decide_eq_false (by omega)
  by_cases r2 : 200 < wd
  case pos =>
    have HR : Hid (PltIs D n K m N p q Lo Hi wd hh [] 2) := .range g0 g2 (by omega)
    have t1 : decide (wd < 1) = false := decide_eq_false (by omega)
    have t2 : decide (200 < wd) = true := decide_eq_true (by omega)
    clear g0 g2 r2
    go_enter Tryz.func10, Tryz.ntmps10
    go_wp2_with (first
      | (go_at_call 28
         with_reducible refine (SV.out _ ?_ ?_ ?_).mono ?_
         focus (exact HD.out.below (Nat.le_refl _) H0.out)
         focus (exact HK.out.below (Nat.le_refl _) H0.out)
         focus (exact HV.out.below (Nat.le_refl _) H0.out)
         rintro e w1 ⟨rfl, hb1⟩
         have H1 := Lib.hid (below_step H0.out hb1)
         have HB1 := Lib.hid (HB0.out.call hb1)
         have HG1 := Lib.hid (HG0.out.call hb1)
         obtain ⟨d0, d1⟩ := blk2 HB1.out
         clear hb1)
      | (go_at_call 30
         with_reducible refine (SX.out _ ?_ ?_ ?_).mono ?_
         focus (exact HD.out.below (Nat.le_refl _) H1.out)
         focus (exact HK.out.below (Nat.le_refl _) H1.out)
         focus (exact HN.out.below (Nat.le_refl _) H1.out)
         rintro e w3 ⟨hb3, hx3⟩
         have H3 := Lib.hid (below_step H1.out hb3)
         have HB3 := Lib.hid (HB1.out.call hb3)
         have HG3 := Lib.hid (HG1.out.call hb3)
         obtain ⟨d0, d1⟩ := blk2 HB3.out
         clear hb3
         have hx4 : ∃ g A1 c1 A2 c2, e = .returned (.tuple #[.pointer (some ⟨g, 0, none⟩), .int .i64 0]) ∧ Blk w3 g 75 #[.slice A1 p c1, .slice A2 (p - 1) c2] ∧ IntIn w3 A1 p (ndC D n N) ∧ IntIn w3 A2 (p - 1) (lkC K m N) := by
           rcases hx3 with ⟨h, _⟩ | ⟨_, h⟩
           · exact absurd HG2.out h
           · exact h
         clear hx3
         obtain ⟨g, A1, c1, A2, c2, rfl, hc1, hc2, hc3⟩ := hx4
         have HCO := Lib.hid hc1
         have HI1 := Lib.hid hc2
         clear hc1 hc2 hc3
         obtain ⟨q0, q1⟩ := blk2 HCO.out
         have d2 := HG3.out.cell 0
         simp only [List.getElem?_toArray, List.getElem?_cons_zero] at d2))

    go_ret2
    exact lin_nil HR.out H3.out
  have t2 : decide (200 < wd) = false := decide_eq_false (by omega)
  by_cases r3 : hh < 2
  case pos =>
    have HR : Hid (PltIs D n K m N p q Lo Hi wd hh [] 2) := .range g0 g2 (by omega)
    have t1 : decide (wd < 1) = false := decide_eq_false (by omega)
    have t2 : decide (200 < wd) = false := decide_eq_false (by omega)
    have t3 : decide (hh < 2) = true := decide_eq_true (by omega)
    clear g0 g2 r3
    go_enter Tryz.func10, Tryz.ntmps10
    go_wp2_with (first
      | (go_at_call 28
         with_reducible refine (SV.out _ ?_ ?_ ?_).mono ?_
         focus (exact HD.out.below (Nat.le_refl _) H0.out)
         focus (exact HK.out.below (Nat.le_refl _) H0.out)
         focus (exact HV.out.below (Nat.le_refl _) H0.out)
         rintro e w1 ⟨rfl, hb1⟩
         have H1 := Lib.hid (below_step H0.out hb1)
         have HB1 := Lib.hid (HB0.out.call hb1)
         have HG1 := Lib.hid (HG0.out.call hb1)
         obtain ⟨d0, d1⟩ := blk2 HB1.out
         clear hb1)
      | (go_at_call 30
         with_reducible refine (SX.out _ ?_ ?_ ?_).mono ?_
         focus (exact HD.out.below (Nat.le_refl _) H1.out)
         focus (exact HK.out.below (Nat.le_refl _) H1.out)
         focus (exact HN.out.below (Nat.le_refl _) H1.out)
         rintro e w3 ⟨hb3, hx3⟩
         have H3 := Lib.hid (below_step H1.out hb3)
         have HB3 := Lib.hid (HB1.out.call hb3)
         have HG3 := Lib.hid (HG1.out.call hb3)
         obtain ⟨d0, d1⟩ := blk2 HB3.out
         clear hb3
         have hx4 : ∃ g A1 c1 A2 c2, e = .returned (.tuple #[.pointer (some ⟨g, 0, none⟩), .int .i64 0]) ∧ Blk w3 g 75 #[.slice A1 p c1, .slice A2 (p - 1) c2] ∧ IntIn w3 A1 p (ndC D n N) ∧ IntIn w3 A2 (p - 1) (lkC K m N) := by
           rcases hx3 with ⟨h, _⟩ | ⟨_, h⟩
           · exact absurd HG2.out h
           · exact h
         clear hx3
         obtain ⟨g, A1, c1, A2, c2, rfl, hc1, hc2, hc3⟩ := hx4
         have HCO := Lib.hid hc1
         have HI1 := Lib.hid hc2
         clear hc1 hc2 hc3
         obtain ⟨q0, q1⟩ := blk2 HCO.out
         have d2 := HG3.out.cell 0
         simp only [List.getElem?_toArray, List.getElem?_cons_zero] at d2))

    go_ret2
    exact lin_nil HR.out H3.out
  have t3 : decide (hh < 2) = false := decide_eq_false (by omega)
  by_cases r4 : 100 < hh
  case pos =>
    have HR : Hid (PltIs D n K m N p q Lo Hi wd hh [] 2) := .range g0 g2 (by omega)
    have t1 : decide (wd < 1) = false := decide_eq_false (by omega)
    have t2 : decide (200 < wd) = false := decide_eq_false (by omega)
    have t3 : decide (hh < 2) = false := decide_eq_false (by omega)
    have t4 : decide (100 < hh) = true := decide_eq_true (by omega)
    clear g0 g2 r4
    go_enter Tryz.func10, Tryz.ntmps10
    go_wp2_with (first
      | (go_at_call 28
         with_reducible refine (SV.out _ ?_ ?_ ?_).mono ?_
         focus (exact HD.out.below (Nat.le_refl _) H0.out)
         focus (exact HK.out.below (Nat.le_refl _) H0.out)
         focus (exact HV.out.below (Nat.le_refl _) H0.out)
         rintro e w1 ⟨rfl, hb1⟩
         have H1 := Lib.hid (below_step H0.out hb1)
         have HB1 := Lib.hid (HB0.out.call hb1)
         have HG1 := Lib.hid (HG0.out.call hb1)
         obtain ⟨d0, d1⟩ := blk2 HB1.out
         clear hb1)
      | (go_at_call 30
         with_reducible refine (SX.out _ ?_ ?_ ?_).mono ?_
         focus (exact HD.out.below (Nat.le_refl _) H1.out)
         focus (exact HK.out.below (Nat.le_refl _) H1.out)
         focus (exact HN.out.below (Nat.le_refl _) H1.out)
         rintro e w3 ⟨hb3, hx3⟩
         have H3 := Lib.hid (below_step H1.out hb3)
         have HB3 := Lib.hid (HB1.out.call hb3)
         have HG3 := Lib.hid (HG1.out.call hb3)
         obtain ⟨d0, d1⟩ := blk2 HB3.out
         clear hb3
         have hx4 : ∃ g A1 c1 A2 c2, e = .returned (.tuple #[.pointer (some ⟨g, 0, none⟩), .int .i64 0]) ∧ Blk w3 g 75 #[.slice A1 p c1, .slice A2 (p - 1) c2] ∧ IntIn w3 A1 p (ndC D n N) ∧ IntIn w3 A2 (p - 1) (lkC K m N) := by
           rcases hx3 with ⟨h, _⟩ | ⟨_, h⟩
           · exact absurd HG2.out h
           · exact h
         clear hx3
         obtain ⟨g, A1, c1, A2, c2, rfl, hc1, hc2, hc3⟩ := hx4
         have HCO := Lib.hid hc1
         have HI1 := Lib.hid hc2
         clear hc1 hc2 hc3
         obtain ⟨q0, q1⟩ := blk2 HCO.out
         have d2 := HG3.out.cell 0
         simp only [List.getElem?_toArray, List.getElem?_cons_zero] at d2))

    go_ret2
    exact lin_nil HR.out H3.out
  have t4 : decide (100 < hh) = false := decide_eq_false (by omega)
  have HPI : Hid (PltIs D n K m N p q Lo Hi wd hh (prows D n N p Hi wd.toNat hh hh.toNat) 0) := .ok g0 g2 (by omega)
  obtain ⟨WD, rfl⟩ : ∃ z : Nat, wd = (z : Int) := ⟨wd.toNat, by omega⟩
  obtain ⟨H, rfl⟩ : ∃ z : Nat, hh = (z : Int) := ⟨hh.toNat, by omega⟩
  rw [Int.toNat_natCast, Int.toNat_natCast] at HPI
  have HRG : Hid (1 ≤ WD ∧ WD ≤ 200 ∧ 2 ≤ H ∧ H ≤ 100) := by show _ ∧ _; omega
  have HGB : Hid (∀ i, i < n → (-4194304 ≤ D.Iv i ∧ D.Iv i ≤ D.Gd i ∧ D.Gd i ≤ 4194304)) := fun i hi => by
    obtain ⟨_, _, _, ⟨a1, a2⟩, a3⟩ := (g0.1.2.2.1 i hi).1
    unfold lvP at a1 a2
    rcases a3 with ⟨_, a3, _⟩ | ⟨_, a3, _⟩ <;> omega
  clear r1 r2 r3 r4 g0 g2
  go_enter Tryz.func10, Tryz.ntmps10
  go_wp2_with (first
    | (go_at_call 28
       with_reducible refine (SV.out _ ?_ ?_ ?_).mono ?_
       focus (exact HD.out.below (Nat.le_refl _) H0.out)
       focus (exact HK.out.below (Nat.le_refl _) H0.out)
       focus (exact HV.out.below (Nat.le_refl _) H0.out)
       rintro e w1 ⟨rfl, hb1⟩
       have H1 := Lib.hid (below_step H0.out hb1)
       have HB1 := Lib.hid (HB0.out.call hb1)
       have HG1 := Lib.hid (HG0.out.call hb1)
       obtain ⟨d0, d1⟩ := blk2 HB1.out
       clear hb1)
    | (go_at_call 30
       with_reducible refine (SX.out _ ?_ ?_ ?_).mono ?_
       focus (exact HD.out.below (Nat.le_refl _) H1.out)
       focus (exact HK.out.below (Nat.le_refl _) H1.out)
       focus (exact HN.out.below (Nat.le_refl _) H1.out)
       rintro e w3 ⟨hb3, hx3⟩
       have H3 := Lib.hid (below_step H1.out hb3)
       have HB3 := Lib.hid (HB1.out.call hb3)
       have HG3 := Lib.hid (HG1.out.call hb3)
       obtain ⟨d0, d1⟩ := blk2 HB3.out
       clear hb3
       have hx4 : ∃ g A1 c1 A2 c2, e = .returned (.tuple #[.pointer (some ⟨g, 0, none⟩), .int .i64 0]) ∧ Blk w3 g 75 #[.slice A1 p c1, .slice A2 (p - 1) c2] ∧ IntIn w3 A1 p (ndC D n N) ∧ IntIn w3 A2 (p - 1) (lkC K m N) := by
         rcases hx3 with ⟨h, _⟩ | ⟨_, h⟩
         · exact absurd HG2.out h
         · exact h
       clear hx3
       obtain ⟨g, A1, c1, A2, c2, rfl, hc1, hc2, hc3⟩ := hx4
       have HCO := Lib.hid hc1
       have HI1 := Lib.hid hc2
       clear hc1 hc2 hc3
       obtain ⟨q0, q1⟩ := blk2 HCO.out
       have d2 := HG3.out.cell 0
       simp only [List.getElem?_toArray, List.getElem?_cons_zero] at d2))

  have hp0 : 0 < p := HZ2.out.1
  have hp0' : (0 : Int) < (p : Int) := by omega
  obtain ⟨b1, o1, rfl, hb1, ci⟩ := HI1.out.at hp0
  obtain ⟨hx, hx2, hx3⟩ := ndI_at (HF.out 0 hp0)
  have ci' : w3.cell? ⟨b1, o1, none⟩ = some (.int .i64 ((ndI D n N 0 : Nat) : Int)) := ci
  obtain ⟨x, hxd⟩ : ∃ z, z = ndI D n N 0 := ⟨_, rfl⟩
  rw [← hxd] at ci' hx hx2 hx3
  have HXD := Lib.hid hxd
  have k2 : (0 : Int) ≤ (x : Int) := by omega
  have k3 : (x : Int) < (n : Int) := by omega
  have k3' : x < n := hx
  obtain ⟨b, off, rfl, hb, hC, htab⟩ := (HD.out.below (Nat.le_refl _) H3.out).at hx
  have c4 := hC 4 _ rfl
  have c5 := hC 5 _ rfl
  have HS : Hid (∀ W, Below w3.heap.size w3 W → W.cell? ⟨w.heap.size, 0, none⟩ = some (.slice (some ⟨b, off, none⟩) n nc) ∧ W.cell? ⟨g, 0, none⟩ = some (.slice (some ⟨b1, o1, none⟩) p c1) ∧ W.cell? ⟨b1, o1, none⟩ = some (.int .i64 (x : Int)) ∧ W.cell? ⟨b, off + x * 9 + 4, none⟩ = some (.int .i64 (D.Iv x)) ∧ W.cell? ⟨b, off + x * 9 + 5, none⟩ = some (.int .i64 (D.Gd x))) := fun W hW => ⟨(hW.cell (p := ⟨w.heap.size, 0, none⟩) HB3.out.lt).trans d0, (hW.cell (p := ⟨g, 0, none⟩) HCO.out.lt).trans q0, (hW.cell (p := ⟨b1, o1, none⟩) hb1).trans ci', (hW.cell (p := ⟨b, off + x * 9 + 4, none⟩) (Nat.lt_of_lt_of_le hb (by omega))).trans c4, (hW.cell (p := ⟨b, off + x * 9 + 5, none⟩) (Nat.lt_of_lt_of_le hb (by omega))).trans c5⟩
  have HBL : Hid (b < w3.heap.size ∧ b1 < w3.heap.size) := ⟨hb, hb1⟩
  clear hC htab hxd hx hx2 hx3 ci hb hb1 c4 c5 ci' d0 q0 q1 d1
  go_cut [14, 15] from 56 to 77 (fun s t wx => ∃ gt gb : Nat, s = .pointer (some ⟨gt, 0, none⟩) ∧ t = .pointer (some ⟨gb, 0, none⟩) ∧ Hid (Below w3.heap.size w3 wx) ∧ Hid (Blk wx gt 3 #[.int .i64 (D.Gd x)]) ∧ Hid (Blk wx gb 3 #[.int .i64 (D.Iv x)]) ∧ Hid (gt ≠ gb ∧ w3.heap.size ≤ gt ∧ w3.heap.size ≤ gb))
  case first =>
    go_region_held3 (fun w' => w'.cell? ⟨w.heap.size, 0, none⟩ = some (.slice (some ⟨b, off, none⟩) n nc) ∧ w'.cell? ⟨g, 0, none⟩ = some (.slice (some ⟨b1, o1, none⟩) p c1) ∧ w'.cell? ⟨b1, o1, none⟩ = some (.int .i64 (x : Int)) ∧ w'.cell? ⟨b, off + x * 9 + 4, none⟩ = some (.int .i64 (D.Iv x)) ∧ w'.cell? ⟨b, off + x * 9 + 5, none⟩ = some (.int .i64 (D.Gd x))) (exact HS.out _ (by (repeat' (first | assumption | exact Below.refl _ _ | exact Below.size (by assumption) | (refine Below.setCell ?_ ?_ _) | (refine Below.alloc ?_ ?_ _) | (refine Below.drew ?_) | (refine below_drewN ?_ _) | (refine Below.trans ?_ (Below.mono ‹Below _ _ _› ?_)) | omega | (simp; done) | (simp; omega) | (simp at *; omega))))) (fail)
    all_goals (go_wp2_with fail; go_meet)
    all_goals (first
      | exact ⟨w3.heap.size, w3.heap.size + 1, rfl, rfl, (by show Below _ _ _; (repeat' (first | assumption | exact Below.refl _ _ | exact Below.size (by assumption) | (refine Below.setCell ?_ ?_ _) | (refine Below.alloc ?_ ?_ _) | (refine Below.drew ?_) | (refine below_drewN ?_ _) | (refine Below.trans ?_ (Below.mono ‹Below _ _ _› ?_)) | omega | (simp; done) | (simp; omega) | (simp at *; omega)))), blk_pair1 _ _ _ _, blk_pair2 _ _ _ _, (by show _ ∧ _; omega)⟩
      | exact ⟨w3.heap.size + 1, w3.heap.size, rfl, rfl, (by show Below _ _ _; (repeat' (first | assumption | exact Below.refl _ _ | exact Below.size (by assumption) | (refine Below.setCell ?_ ?_ _) | (refine Below.alloc ?_ ?_ _) | (refine Below.drew ?_) | (refine below_drewN ?_ _) | (refine Below.trans ?_ (Below.mono ‹Below _ _ _› ?_)) | omega | (simp; done) | (simp; omega) | (simp at *; omega)))), blk_pair2 _ _ _ _, blk_pair1 _ _ _ _, (by show _ ∧ _; omega)⟩)
  case rest =>
  obtain ⟨gt, gb, rfl, rfl, HW4, HT, HBt, HNE⟩ := hcut
  clear HS t1 t2 t3 t4 k2 k3 k3' hp0 hp0'
  have q0 := (HCO.out.below HW4.out HCO.out.lt).cell 0
  simp only [List.getElem?_toArray, List.getElem?_cons_zero] at q0
  generalize wc = w4 at HW4 HT HBt q0 ⊢
  go_wp2_with fail
  go_loopw [83] (fun u wr => ∃ k : Nat, Hid (k ≤ p) ∧ u = .int .i64 k ∧ Hid (Below w3.heap.size w3 wr) ∧ Hid (Blk wr gt 3 #[.int .i64 (topF (fun i => D.Gd (ndI D n N i)) k)]) ∧ Hid (Blk wr gb 3 #[.int .i64 (botF (fun i => D.Iv (ndI D n N i)) k)])) (fun u _ => p - (RowKit.intOf u).toNat)
  case atStart => exact ⟨0, Nat.zero_le _, rfl, HW4.out, by have e := HXD.out; subst e; exact HT.out, by have e := HXD.out; subst e; exact HBt.out⟩
  case round =>
    obtain ⟨k, Hk, rfl, HW, HTr, HBr⟩ := hrel
    by_cases hlt : k < p
    · have T0 : decide ((k : Int) < (p : Int)) = true := by simp <;> omega
      have T0' : decide (k < p) = true := decide_eq_true hlt
      obtain ⟨i', hi'⟩ : ∃ z, z = k + 1 := ⟨_, rfl⟩
      have x0 : IntKind.i64.wrap ((k : Int) + 1) = (i' : Int) := by have := HZ2.out; rw [IntKind.wrap_i64]; omega
      have HMS : Hid (p - (RowKit.intOf (Value.int .i64 (i' : Int))).toNat < p - (RowKit.intOf (Value.int .i64 (k : Int))).toNat) := by show _ < _; simp [RowKit.intOf]; omega
      have HI' : Hid (i' ≤ p) := by show i' ≤ p; omega
      have HIE : Hid (i' = k + 1) := hi'
      have kk0 : (0 : Int) ≤ (k : Int) := by omega
      have kk1 : (k : Int) < (p : Int) := by omega
      have ci := ((HI1.out.below (Nat.le_refl _) HW.out).at hlt)
      obtain ⟨hx, hx2, hx3⟩ := ndI_at (HF.out k hlt)
      obtain ⟨b1', o1', e1, hb1, ci⟩ := ci
      cases e1
      have ci' : wr.cell? ⟨b1, o1 + k, none⟩ = some (.int .i64 ((ndI D n N k : Nat) : Int)) := ci
      obtain ⟨y, hyd⟩ : ∃ z, z = ndI D n N k := ⟨_, rfl⟩
      rw [← hyd] at ci' hx hx2 hx3
      have HYD := Lib.hid hyd
      have k2 : (0 : Int) ≤ (y : Int) := by omega
      have k3 : (y : Int) < (n : Int) := by omega
      have k3' : y < n := hx
      have hnd := (HD.out.below (Nat.le_refl _) (below_step H3.out HW.out)).at hx
      obtain ⟨b', off', e2, hb, hC, htab⟩ := hnd
      cases e2
      have c4 := hC 4 _ rfl
      have c5 := hC 5 _ rfl
      have d0 := (HB3.out.below HW.out HB3.out.lt).cell 0
      have e0 := HTr.out.cell 0
      have e1 := HBr.out.cell 0
      have f0 := HTr.out.frozen 0
      have f1 := HBr.out.frozen 0
      have hne := HNE.out.1
      simp only [List.getElem?_toArray, List.getElem?_cons_zero] at d0 e0 e1
      have HTY : Hid (topF (fun i => D.Gd (ndI D n N i)) i' = max (topF (fun i => D.Gd (ndI D n N i)) k) (D.Gd y)) := by show _ = _; rw [hi', hyd]; rfl
      have HBY : Hid (botF (fun i => D.Iv (ndI D n N i)) i' = min (botF (fun i => D.Iv (ndI D n N i)) k) (D.Iv y)) := by show _ = _; rw [hi', hyd]; rfl
      generalize topF (fun i => D.Gd (ndI D n N i)) k = tk at HTr HTY e0 ⊢
      generalize botF (fun i => D.Iv (ndI D n N i)) k = bk at HBr HBY e1 ⊢
      have hl0 : w.heap.size < w3.heap.size := HB3.out.lt
      have hl1 : b < w3.heap.size := HBL.out.1
      have HNE2 := HNE.out
      have far : ∀ (g' : Nat) (v : Value) (b' o' : Nat), w3.heap.size ≤ g' → b' < w3.heap.size → (wr.setCell ⟨g', 0, none⟩ v).cell? ⟨b', o', none⟩ = wr.cell? ⟨b', o', none⟩ := fun g' v b' o' h1 h2 => World.cell?_setCell_other wr _ _ _ (fun e => by injection e with e _ _; omega)
      have far2 : ∀ (g' h' : Nat) (v : Value), g' ≠ h' → (wr.setCell ⟨g', 0, none⟩ v).cell? ⟨h', 0, none⟩ = wr.cell? ⟨h', 0, none⟩ := fun g' h' v h1 => World.cell?_setCell_other wr _ _ _ (fun e => by injection e with e _ _; omega)
      have d0a := fun v => (far gt v w.heap.size 0 HNE2.2.1 hl0).trans d0
      have d0b := fun v => (far gb v w.heap.size 0 HNE2.2.2 hl0).trans d0
      have c4a := fun v => (far gt v b (off + y * 9 + 4) HNE2.2.1 hl1).trans c4
      have c4b := fun v => (far gb v b (off + y * 9 + 4) HNE2.2.2 hl1).trans c4
      have c5a := fun v => (far gt v b (off + y * 9 + 5) HNE2.2.1 hl1).trans c5
      have c5b := fun v => (far gb v b (off + y * 9 + 5) HNE2.2.2 hl1).trans c5
      have e1a := fun v => (far2 gt gb v HNE2.1).trans e1
      have e0b := fun v => (far2 gb gt v HNE2.1.symm).trans e0
      clear far far2 HNE2 hl0 hl1
      clear hC htab hyd hx hx2 hx3 ci hb hb1 hi' hlt
      have HWn : Hid (Below w3.heap.size w3 ((wr.setCell ⟨gt, 0, none⟩ (.int .i64 (max tk (D.Gd y)))).setCell ⟨gb, 0, none⟩ (.int .i64 (min bk (D.Iv y)))).drew) := below_drew1 ((HW.out.setCell (p := ⟨gt, 0, none⟩) HNE.out.2.1 _).setCell (p := ⟨gb, 0, none⟩) HNE.out.2.2 _)
      have HTn : Hid (Blk ((wr.setCell ⟨gt, 0, none⟩ (.int .i64 (max tk (D.Gd y)))).setCell ⟨gb, 0, none⟩ (.int .i64 (min bk (D.Iv y)))).drew gt 3 #[.int .i64 (topF (fun i => D.Gd (ndI D n N i)) i')]) := by show Blk _ _ _ _; rw [HTY.out]; exact (HTr.out.set_ 0 _).far (by exact HNE.out.1) _
      have HBn : Hid (Blk ((wr.setCell ⟨gt, 0, none⟩ (.int .i64 (max tk (D.Gd y)))).setCell ⟨gb, 0, none⟩ (.int .i64 (min bk (D.Iv y)))).drew gb 3 #[.int .i64 (botF (fun i => D.Iv (ndI D n N i)) i')]) := by show Blk _ _ _ _; rw [HBY.out]; exact (HBr.out.far (by exact HNE.out.1.symm) _).set_ 0 _
      go_upto_region 12 with fail
      go_region
      go_wp2_with fail
      go_roundw
      case rel => exact ⟨i', HI', rfl, HWn.out, HTn.out, HBn.out⟩
      case measure => exact HMS.out
    · have T0 : decide ((k : Int) < (p : Int)) = false := by simp <;> omega
      have T0' : decide (k < p) = false := decide_eq_false hlt
      obtain rfl : p = k := by have := Hk.out; omega
      have HT5 : Hid (Blk wr gt 3 #[.int .i64 (pTop D n N p)]) := HTr.out
      have HB5 : Hid (Blk wr gb 3 #[.int .i64 (pBot D n N p)]) := HBr.out
      have HTB : Hid (-4194304 ≤ pBot D n N p ∧ pBot D n N p ≤ pTop D n N p ∧ pTop D n N p ≤ 4194304) := by
        show _ ∧ _
        have a1 := fun i (hi : i < p) => HGB.out _ (ndI_at (HF.out i hi)).1
        have a2 := topF_le (fun i => D.Gd (ndI D n N i)) 4194304 p (a1 0 HZ2.out.1).2.2 (fun i hi => (a1 i hi).2.2)
        have a3 := botF_ge (fun i => D.Iv (ndI D n N i)) (-4194304) p (a1 0 HZ2.out.1).1 (fun i hi => (a1 i hi).1)
        have a4 : D.Gd (ndI D n N 0) ≤ topF (fun i => D.Gd (ndI D n N i)) p := topF_0 _ p
        have a5 : botF (fun i => D.Iv (ndI D n N i)) p ≤ D.Iv (ndI D n N 0) := botF_0 _ p
        have a6 := (a1 0 HZ2.out.1).2.1
        unfold pTop pBot
        exact ⟨a3, by omega, a2⟩
      have d9 := (HG3.out.below HW.out HG3.out.lt).cell 0
      simp only [List.getElem?_toArray, List.getElem?_cons_zero] at d9
      have hH : (0 : Int) ≤ (H : Int) := by omega
      have hH2 : (H : Int) ≤ 100 := by have := HRG.out; omega
      have hmk := run_rows H WD wr hH2
      have HW6 : Hid (Below w3.heap.size w3 (wr.alloc (Obj.cells (rowsA H WD id 0) 81))) := HW.out.alloc HW.out.size _
      have HT6 : Hid (Blk (wr.alloc (Obj.cells (rowsA H WD id 0) 81)) gt 3 #[.int .i64 (pTop D n N p)]) := HT5.out.alloc _
      have HB6 : Hid (Blk (wr.alloc (Obj.cells (rowsA H WD id 0) 81)) gb 3 #[.int .i64 (pBot D n N p)]) := HB5.out.alloc _
      have HR6 : Hid (Blk (wr.alloc (Obj.cells (rowsA H WD id 0) 81)) wr.heap.size 81 (rowsA H WD id 0)) := Blk.new wr 81 _
      have HGL : Hid (gt < wr.heap.size ∧ gb < wr.heap.size ∧ w3.heap.size ≤ wr.heap.size) := ⟨HT5.out.lt, HB5.out.lt, HW.out.size⟩
      have HGS : Hid ((wr.alloc (Obj.cells (rowsA H WD id 0) 81)).heap.size = wr.heap.size + 1) := by show _ = _; simp
      have SR : Hid (∀ (sb cp : Nat) (w : World), w.cell? ⟨sb, 0, none⟩ = some (.int .u8 32) → sb < w.heap.size → Calls Tryz.prog 36 #[.slice (some ⟨sb, 0, none⟩) 1 cp, .int .i64 (WD : Int)] w fun e w' => ∃ g, e = .returned (.slice (some ⟨g, 0, none⟩) WD WD) ∧ w.heap.size ≤ g ∧ g < w'.heap.size ∧ RowOf w' g WD (fun _ => 32) ∧ Below w.heap.size w w') := fun sb cp w hx hs => trepeat sb cp 32 WD HRG.out.1 HRG.out.2.1 w hx hs
      clear hlt HTr HBr
      go_wp2_with fail
      clear hmk d9 hH hH2 HW HT5 HB5
      generalize wr.alloc (Obj.cells (rowsA H WD id 0) 81) = w6 at HW6 HT6 HB6 HR6 HGS ⊢
      generalize wr.heap.size = G at HR6 HGL HGS ⊢
      go_loopw [109] (fun u wq => ∃ (i : Nat) (rb : Nat → Nat), Hid (i ≤ H) ∧ u = .int .i64 i ∧ Hid (Below G w6 wq) ∧ Hid (Blk wq G 81 (rowsA H WD rb i)) ∧ Hid (Mat wq G i WD rb (fun _ _ => 32))) (fun u _ => H - (RowKit.intOf u).toNat)
      case atStart => exact ⟨0, id, Nat.zero_le _, rfl, Below.refl _ _, HR6.out, Mat.zero _ _ _ _ _⟩
      case round =>
        obtain ⟨i, rb, Hi2, rfl, HQ, HRq, HMq⟩ := hrel
        by_cases hlt : i < H
        · have T0 : decide ((i : Int) < (H : Int)) = true := by simp <;> omega
          have T0' : decide (i < H) = true := decide_eq_true hlt
          obtain ⟨i', hi'⟩ : ∃ z, z = i + 1 := ⟨_, rfl⟩
          have x0 : IntKind.i64.wrap ((i : Int) + 1) = (i' : Int) := by have := HRG.out; rw [IntKind.wrap_i64]; omega
          have HMS : Hid (H - (RowKit.intOf (Value.int .i64 (i' : Int))).toNat < H - (RowKit.intOf (Value.int .i64 (i : Int))).toNat) := by show _ < _; simp [RowKit.intOf]; omega
          have HI' : Hid (i' ≤ H) := by show i' ≤ H; omega
          have HIE : Hid (i' = i + 1) := hi'
          have HLT := Lib.hid hlt
          have kk0 : (0 : Int) ≤ (i : Int) := by omega
          have kk1 : (i : Int) < (H : Int) := by omega
          have HBA : Hid (Below wr.heap.size wr (wr.alloc (Obj.cells #[.int .u8 32] 5))) := (Below.refl _ wr).alloc (Nat.le_refl _) _
          have HRA : Hid (Blk (wr.alloc (Obj.cells #[.int .u8 32] 5)) G 81 (rowsA H WD rb i)) := HRq.out.alloc _
          have HCA := Lib.hid ((Blk.new wr 5 #[.int .u8 32]).cell 0)
          have HLA : Hid ((wr.alloc (Obj.cells #[.int .u8 32] 5)).heap.size = wr.heap.size + 1) := by show _ = _; simp
          clear hlt hi'
          go_wp2_with (first
            | (go_at_call 36
               with_reducible refine (SR.out _ _ _ ?_ ?_).mono ?_
               focus (exact HCA.out)
               focus (rw [HLA.out]; exact Nat.lt_succ_self _)
               rintro e w8 ⟨g8, rfl, hl8, hu8, hr8, hb8⟩
               have HR8 := Lib.hid (HRA.out.call hb8)
               have HB8 : Hid (Below wr.heap.size wr w8) := HBA.out.trans (hb8.mono HBA.out.size)
               have HG8 : Hid (wr.heap.size ≤ g8 ∧ g8 < w8.heap.size) := by show _ ∧ _; exact ⟨Nat.le_trans HBA.out.size hl8, hu8⟩
               have HV8 := Lib.hid hr8
               have c8 := (HR8.out.cell i).trans (rowsA_nil HLT.out (Nat.le_refl i))
               have f8 := HR8.out.frozen i
               clear hl8 hu8 hr8 hb8))
          go_roundw
          case measure => exact HMS.out
          case rel =>
            have hm := (HMq.out.add HRq.out.lt HB8.out HG8.out.1 HG8.out.2 HV8.out).far i (.slice (some ⟨g8, 0, none⟩) WD WD)
            have hk := HR8.out.set_ i (.slice (some ⟨g8, 0, none⟩) WD WD)
            rw [rowsA_succ HLT.out] at hk
            have hq : Below G w6 (w8.setCell ⟨G, i, none⟩ (.slice (some ⟨g8, 0, none⟩) WD WD)) := (HQ.out.trans (HB8.out.mono (by have := HRq.out.lt; omega))).setCell (p := ⟨G, i, none⟩) (Nat.le_refl _) _
            rw [HIE.out]
            exact ⟨i + 1, fun r => if r = i then g8 else rb r, by show i + 1 ≤ H; have := HLT.out; omega, rfl, hq, hk, hm⟩
        · have T0 : decide ((i : Int) < (H : Int)) = false := by simp <;> omega
          have T0' : decide (i < H) = false := decide_eq_false hlt
          obtain rfl : H = i := by have := Hi2.out; omega
          have HM7 : Hid (Mat wr G H WD rb (colF D n N p Hi WD (H : Int) 0)) := HMq.out.congr (fun r c _ _ => by unfold colF; rw [if_neg (Nat.not_lt_zero _)])
          have HW7 : Hid (Below w3.heap.size w3 wr) := HW6.out.trans ((HQ.out.mono HGL.out.2.2))
          have HT7 := Lib.hid (HT6.out.below HQ.out HGL.out.1)
          have HB7 := Lib.hid (HB6.out.below HQ.out HGL.out.2.1)
          clear hlt HMq HQ HT6 HB6 HW6 HR6
          generalize wr = w7 at HM7 HW7 HT7 HB7 HRq ⊢
          have HR7 := HRq
          have SP : Hid (∀ (z : Int) W, Below (G + 1) w7 W → Calls Tryz.prog 35 #[.int .i64 z, .pointer (some ⟨gt, 0, none⟩), .pointer (some ⟨gb, 0, none⟩), .pointer (some ⟨w.heap.size + 1, 0, none⟩)] W fun e w' => e = .returned (.int .i64 (rowZ (pTop D n N p) (pBot D n N p) (H : Int) z)) ∧ W = w') := fun z W hW => by
            refine tprow gt gb (w.heap.size + 1) _ _ _ z ⟨by have := HRG.out; omega, by have := HRG.out; omega⟩ HTB.out W ?_ ?_ ?_
            · exact (HT7.out.below hW (by have := HGL.out; omega)).cell 0
            · exact (HB7.out.below hW (by have := HGL.out; omega)).cell 0
            · exact ((HG3.out.below HW7.out HG3.out.lt).below hW (by have := HGL.out; have := HG3.out.lt; omega)).cell 0
          clear HRq HT7 HB7 SR
          go_wp2_with fail
          go_loopw [120] (fun u wr => ∃ j : Nat, Hid (j ≤ WD) ∧ u = .int .i64 j ∧ Hid (Below (G + 1) w7 wr) ∧ Hid (Mat wr G H WD rb (colF D n N p Hi WD (H : Int) j))) (fun u _ => WD - (RowKit.intOf u).toNat)
          case atStart => exact ⟨0, Nat.zero_le _, rfl, Below.refl _ _, HM7.out⟩
          case round =>
            obtain ⟨j, Hj, rfl, HQ, HMq⟩ := hrel
            by_cases hlt : j < WD
            · have T0 : decide ((j : Int) < (WD : Int)) = true := by simp <;> omega
              have T0' : decide (j < WD) = true := decide_eq_true hlt
              obtain ⟨j', hj'⟩ : ∃ z, z = j + 1 := ⟨_, rfl⟩
              have x0 : IntKind.i64.wrap ((j : Int) + 1) = (j' : Int) := by have := HRG.out; rw [IntKind.wrap_i64]; omega
              have HMS : Hid (WD - (RowKit.intOf (Value.int .i64 (j' : Int))).toNat < WD - (RowKit.intOf (Value.int .i64 (j : Int))).toNat) := by show _ < _; simp [RowKit.intOf]; omega
              have HJ' : Hid (j' ≤ WD) := by show j' ≤ WD; omega
              have HJE : Hid (j' = j + 1) := hj'
              have HJ : Hid (j < WD) := hlt
              have jj0 : (0 : Int) ≤ (j : Int) := by omega
              have jj1 : (j : Int) < (WD : Int) := by omega
              have HWr : Hid (Below w3.heap.size w3 wr) := HW7.out.trans (HQ.out.mono (by have := HGL.out; omega))
              obtain ⟨jp, hjp⟩ : ∃ z, z = j * p := ⟨_, rfl⟩
              obtain ⟨id, hid⟩ : ∃ z, z = jp / WD := ⟨_, rfl⟩
              have hidp : id < p := by rw [hid, hjp]; exact Nat.div_lt_of_lt_mul (Nat.mul_lt_mul_of_pos_right hlt HZ2.out.1)
              have hjb : jp ≤ 6000 := by
                rw [hjp]
                exact Nat.le_trans (Nat.mul_le_mul (by have := HRG.out; omega : j ≤ 200) HZ2.out.2.1) (by decide)
              have hidb : id ≤ 30 := by have := HZ2.out; omega
              have x1 : (j : Int) * (p : Int) = (jp : Int) := by rw [hjp, Int.natCast_mul]
              have x2 : IntKind.i64.wrap (jp : Int) = (jp : Int) := by rw [IntKind.wrap_i64]; omega
              have x3 : IntKind.i64.wrap ((jp : Int).tdiv (WD : Int)) = (id : Int) := by
                rw [Int.tdiv_eq_ediv_of_nonneg (by omega), ← Int.natCast_ediv, ← hid, IntKind.wrap_i64]; omega
              have x4 : ((WD : Int) == 0) = false := by have := HRG.out; simp; omega
              have x5 : ¬ (WD : Int) = 0 := by have := HRG.out; omega
              have x5' : ¬ WD = 0 := by have := HRG.out; omega
              have x6 : jp / WD = id := hid.symm
              have x7 : (jp : Int) / (WD : Int) = (id : Int) := by rw [← Int.natCast_ediv, x6]
              have x8 : IntKind.i64.wrap (id : Int) = (id : Int) := by rw [IntKind.wrap_i64]; omega
              have id0 : (0 : Int) ≤ (id : Int) := by omega
              have id1 : (id : Int) < (p : Int) := by omega
              have id2 : id < p := hidp
              obtain ⟨b1', o1', e1, hb1, ci⟩ := (HI1.out.below (Nat.le_refl _) HWr.out).at hidp
              cases e1
              obtain ⟨hx, hx2, hx3⟩ := ndI_at (HF.out id hidp)
              have ci' : wr.cell? ⟨b1, o1 + id, none⟩ = some (.int .i64 ((ndI D n N id : Nat) : Int)) := ci
              obtain ⟨y, hyd⟩ : ∃ z, z = ndI D n N id := ⟨_, rfl⟩
              rw [← hyd] at ci' hx hx2 hx3
              have HYX : Hid (y = ndI D n N (j * p / WD)) := by show y = _; rw [hyd, hid, hjp]
              have HYN : Hid (y < n) := hx
              have k2 : (0 : Int) ≤ (y : Int) := by omega
              have k3 : (y : Int) < (n : Int) := by omega
              have k3' : y < n := hx
              have k4' : y < q := by have := HZ2.out.2.2.1; omega
              have k4 : (y : Int) < (q : Int) := by omega
              have q0 := (HCO.out.below HWr.out HCO.out.lt).cell 0
              simp only [List.getElem?_toArray, List.getElem?_cons_zero] at q0
              clear hlt hj' hjp hid hidp hidb hjb hyd hx hx2 hx3 ci hb1
              go_upto_region 24 with fail
              go_quiet (fail)
              have HQa : Hid (Below (G + 1) w7 (wr.drewN nq)) := below_drewN HQ.out _
              have HMa := Lib.hid (HMq.out.call (below_drewN (Below.refl wr.heap.size wr) nq))
              have HWa : Hid (Below w3.heap.size w3 (wr.drewN nq)) := below_drewN HWr.out _
              clear q0 ci' x1 x2 x3 x4 x5 x5' x6 x7 x8 id0 id1 id2 HQ HMq HWr T0 T0'
              generalize wr.drewN nq = wa at HQa HMa HWa ⊢
              have hnd := (HD.out.below (Nat.le_refl _) (below_step H3.out HWa.out)).at HYN.out
              obtain ⟨b', off', e2, hb, hC, htab⟩ := hnd
              cases e2
              have c0 := hC 0 _ rfl
              have c1 := hC 1 _ rfl
              have c2 := hC 2 _ rfl
              have c3 := hC 3 _ rfl
              have c4 := hC 4 _ rfl
              have c5 := hC 5 _ rfl
              have c6 := hC 6 _ rfl
              have c7 := hC 7 _ rfl
              have c8 := hC 8 _ rfl
              simp only [Nat.add_zero] at c0
              have d0 := (HB3.out.below HWa.out HB3.out.lt).cell 0
              simp only [List.getElem?_toArray, List.getElem?_cons_zero] at d0
              obtain ⟨bv, ov, rfl, hbv, cl0, cl1⟩ := HV.out.at k4'
              have HVB : Hid (∀ W, Below (G + 1) w7 W → W.cell? ⟨bv, ov + y * 2 + 1, none⟩ = some (.int .i64 (Hi y))) := fun W hW => (((hW.cell (p := ⟨bv, ov + y * 2 + 1, none⟩) (by have := HGL.out; have := H3.out.size; exact (by omega : bv < G + 1))).trans (HW7.out.cell (p := ⟨bv, ov + y * 2 + 1, none⟩) (Nat.lt_of_lt_of_le hbv H3.out.size))).trans (H3.out.cell (p := ⟨bv, ov + y * 2 + 1, none⟩) hbv)).trans cl1
              clear hC htab hb hbv cl0 cl1
              go_upto_region 26 with fail
              have HXb : Hid (Blk (wa.alloc (Obj.cells #[.string (D.Nm y), .int .i64 (D.Kd y), .int .i64 (D.Ax y), .int .i64 (D.Ay y), .int .i64 (D.Iv y), .int .i64 (D.Gd y), .slice (D.SA y) (D.SN y) (D.SC y), .bool (D.Pt y), .int .i64 (D.Rs y)] 59)) wa.heap.size 59 #[.string (D.Nm y), .int .i64 (D.Kd y), .int .i64 (D.Ax y), .int .i64 (D.Ay y), .int .i64 (D.Iv y), .int .i64 (D.Gd y), .slice (D.SA y) (D.SN y) (D.SC y), .bool (D.Pt y), .int .i64 (D.Rs y)]) := Blk.new wa 59 _
              have HQb : Hid (Below (G + 1) w7 (wa.alloc (Obj.cells #[.string (D.Nm y), .int .i64 (D.Kd y), .int .i64 (D.Ax y), .int .i64 (D.Ay y), .int .i64 (D.Iv y), .int .i64 (D.Gd y), .slice (D.SA y) (D.SN y) (D.SC y), .bool (D.Pt y), .int .i64 (D.Rs y)] 59))) := HQa.out.alloc (by have := HR7.out.lt; have := HQa.out.size; omega) _
              have HMb := Lib.hid (HMa.out.call ((Below.refl wa.heap.size wa).alloc (Nat.le_refl _) (Obj.cells #[.string (D.Nm y), .int .i64 (D.Kd y), .int .i64 (D.Ax y), .int .i64 (D.Ay y), .int .i64 (D.Iv y), .int .i64 (D.Gd y), .slice (D.SA y) (D.SN y) (D.SC y), .bool (D.Pt y), .int .i64 (D.Rs y)] 59)))
              have HXN : Hid (∀ r, r < H → wa.heap.size ≠ rb r) := fun r hr => by have := HMa.out.up r hr; omega
              clear d0 c0 c1 c2 c3 c4 c5 c6 c7 c8 HQa HMa HWa
              generalize wa.alloc (Obj.cells #[.string (D.Nm y), .int .i64 (D.Kd y), .int .i64 (D.Ax y), .int .i64 (D.Ay y), .int .i64 (D.Iv y), .int .i64 (D.Gd y), .slice (D.SA y) (D.SN y) (D.SC y), .bool (D.Pt y), .int .i64 (D.Rs y)] 59) = wb at HXb HQb HMb ⊢
              generalize wa.heap.size = X at HXb HXN ⊢
              have cv := HVB.out wb HQb.out
              have cX4 := HXb.out.cell 4
              simp only [List.getElem?_toArray, List.getElem?_cons_zero, List.getElem?_cons_succ] at cX4
              obtain ⟨ri, hri⟩ : ∃ z : Nat, (z : Int) = rowZ (pTop D n N p) (pBot D n N p) (H : Int) (D.Iv y) := ⟨(rowZ (pTop D n N p) (pBot D n N p) (H : Int) (D.Iv y)).toNat, Int.toNat_of_nonneg (rowZ_bd (by have := HRG.out; omega)).1⟩
              obtain ⟨rg, hrg⟩ : ∃ z : Nat, (z : Int) = rowZ (pTop D n N p) (pBot D n N p) (H : Int) (D.Gd y) := ⟨(rowZ (pTop D n N p) (pBot D n N p) (H : Int) (D.Gd y)).toNat, Int.toNat_of_nonneg (rowZ_bd (by have := HRG.out; omega)).1⟩
              have HRI := Lib.hid hri
              have HRGE := Lib.hid hrg
              have HRIL : Hid (ri < H) := by show ri < H; have := (rowZ_bd (top := pTop D n N p) (bot := pBot D n N p) (h := (H : Int)) (z := D.Iv y) (by have := HRG.out; omega)).2; omega
              have HRGL : Hid (rg < H) := by show rg < H; have := (rowZ_bd (top := pTop D n N p) (bot := pBot D n N p) (h := (H : Int)) (z := D.Gd y) (by have := HRG.out; omega)).2; omega
              have SPI := Lib.hid (SP.out (D.Iv y))
              have SPG := Lib.hid (SP.out (D.Gd y))
              have SPH := Lib.hid (SP.out (Hi y))
              rw [← hri] at SPI
              rw [← hrg] at SPG
              have a0 : (0 : Int) ≤ (ri : Int) := by omega
              have a1 : (ri : Int) < (H : Int) := by have := HRIL.out; omega
              have a1' : ri < H := HRIL.out
              have a2 : (0 : Int) ≤ (rg : Int) := by omega
              have a3 : (rg : Int) < (H : Int) := by have := HRGL.out; omega
              have a3' : rg < H := HRGL.out
              clear hri hrg
              by_cases hw : D.Iv y < Hi y
              · have T1 : decide (D.Iv y < Hi y) = true := decide_eq_true hw
                obtain ⟨rh, hrh⟩ : ∃ z : Nat, (z : Int) = rowZ (pTop D n N p) (pBot D n N p) (H : Int) (Hi y) := ⟨(rowZ (pTop D n N p) (pBot D n N p) (H : Int) (Hi y)).toNat, Int.toNat_of_nonneg (rowZ_bd (by have := HRG.out; omega)).1⟩
                have HRHL : Hid (rh < H) := by show rh < H; have := (rowZ_bd (top := pTop D n N p) (bot := pBot D n N p) (h := (H : Int)) (z := Hi y) (by have := HRG.out; omega)).2; omega
                have HWW : Hid (∀ r : Nat, (rh ≤ r ∧ r ≤ ri) ↔ (D.Iv y < Hi y ∧ rowZ (pTop D n N p) (pBot D n N p) (H : Int) (Hi y) ≤ (r : Int) ∧ (r : Int) ≤ rowZ (pTop D n N p) (pBot D n N p) (H : Int) (D.Iv y))) := fun r => by rw [← hrh, ← HRI.out]; omega
                rw [← hrh] at SPH
                clear hw hrh
                go_quiet (fail)
                have HQc : Hid (Below (G + 1) w7 (wb.drewN nq)) := below_drewN HQb.out _
                have HMc := Lib.hid (HMb.out.call (below_drewN (Below.refl wb.heap.size wb) nq))
                have HXc : Hid (Blk (wb.drewN nq) X 59 #[.string (D.Nm y), .int .i64 (D.Kd y), .int .i64 (D.Ax y), .int .i64 (D.Ay y), .int .i64 (D.Iv y), .int .i64 (D.Gd y), .slice (D.SA y) (D.SN y) (D.SC y), .bool (D.Pt y), .int .i64 (D.Rs y)]) := HXb.out
                clear HQb HMb HXb cv cX4 T1
                generalize wb.drewN nq = wc at HQc HMc HXc ⊢
                have cv := HVB.out wc HQc.out
                go_wp2_with (first
                  | (go_at_call 35
                     with_reducible refine (SPH.out _ HQc.out).mono ?_
                     rintro e wz ⟨rfl, rfl⟩))
                go_loopw [24] (fun u wr => ∃ r : Nat, Hid (rh ≤ r ∧ r ≤ H ∧ (r ≤ rh ∨ r ≤ ri + 1)) ∧ u = .int .i64 r ∧ Hid (Below (G + 1) w7 wr) ∧ Hid (Blk wr X 59 #[.string (D.Nm y), .int .i64 (D.Kd y), .int .i64 (D.Ax y), .int .i64 (D.Ay y), .int .i64 (D.Iv y), .int .i64 (D.Gd y), .slice (D.SA y) (D.SN y) (D.SC y), .bool (D.Pt y), .int .i64 (D.Rs y)]) ∧ Hid (Mat wr G H WD rb (fun r' c => if c = j ∧ rh ≤ r' ∧ r' < r then 126 else colF D n N p Hi WD (H : Int) j r' c))) (fun u _ => H + 1 - (RowKit.intOf u).toNat)
                case atStart => exact ⟨rh, by show _ ∧ _; have := HRHL.out; omega, rfl, HQc.out, HXc.out, HMc.out.congr (fun r' c _ _ => by rw [if_neg (by omega)])⟩
                case round =>
                  obtain ⟨r, Hr, rfl, HQr, HXr, HMr⟩ := hrel
                  have cX4 := HXr.out.cell 4
                  simp only [List.getElem?_toArray, List.getElem?_cons_zero, List.getElem?_cons_succ] at cX4
                  by_cases hle : r ≤ ri
                  · have T2 : decide ((r : Int) ≤ (ri : Int)) = true := decide_eq_true (by omega)
                    have T2' : decide (r ≤ ri) = true := decide_eq_true hle
                    have HRL : Hid (r < H) := by show r < H; have := HRIL.out; omega
                    obtain ⟨r', hr'⟩ : ∃ z, z = r + 1 := ⟨_, rfl⟩
                    have x9 : IntKind.i64.wrap ((r : Int) + 1) = (r' : Int) := by have := HRG.out; have := HRL.out; rw [IntKind.wrap_i64]; omega
                    have HI9 : Hid (rh ≤ r' ∧ r' ≤ H ∧ (r' ≤ rh ∨ r' ≤ ri + 1)) := by show _ ∧ _; have := Hr.out; have := HRL.out; omega
                    have HM9 : Hid (H + 1 - (RowKit.intOf (Value.int .i64 (r' : Int))).toNat < H + 1 - (RowKit.intOf (Value.int .i64 (r : Int))).toNat) := by show _ < _; have := HRL.out; simp [RowKit.intOf]; omega
                    have HRE : Hid (r' = r + 1) := hr'
                    have b0 : (0 : Int) ≤ (r : Int) := by omega
                    have b1' : (r : Int) < (H : Int) := by have := HRL.out; omega
                    have b2' : r < H := HRL.out
                    have cR := (HR7.out.below HQr.out (Nat.lt_succ_self G)).cell r
                    rw [rowsA_at HRL.out (Nat.le_refl H)] at cR
                    obtain ⟨cS, fS⟩ := HMr.out.row r HRL.out j HJ.out
                    have HQs : Hid (Below (G + 1) w7 (wr.setCell ⟨rb r, j, none⟩ (.int .u8 126))) := HQr.out.setCell (p := ⟨rb r, j, none⟩) (HMr.out.lo r HRL.out) _
                    have HXs : Hid (Blk (wr.setCell ⟨rb r, j, none⟩ (.int .u8 126)) X 59 #[.string (D.Nm y), .int .i64 (D.Kd y), .int .i64 (D.Ax y), .int .i64 (D.Ay y), .int .i64 (D.Iv y), .int .i64 (D.Gd y), .slice (D.SA y) (D.SN y) (D.SC y), .bool (D.Pt y), .int .i64 (D.Rs y)]) := HXr.out.far (HXN.out r HRL.out) _
                    have HMs : Hid (Mat (wr.setCell ⟨rb r, j, none⟩ (.int .u8 126)) G H WD rb (fun r'' c => if c = j ∧ rh ≤ r'' ∧ r'' < r' then 126 else colF D n N p Hi WD (H : Int) j r'' c)) := (HMr.out.set HRL.out HJ.out 126).congr (fun r'' c _ _ => by
                      have := Hr.out.1
                      rw [hr']
                      by_cases e1 : r'' = r ∧ c = j
                      · rw [if_pos e1, if_pos (by omega)]
                      · rw [if_neg e1]
                        by_cases e2 : c = j ∧ rh ≤ r'' ∧ r'' < r
                        · rw [if_pos e2, if_pos (by omega)]
                        · rw [if_neg e2, if_neg (by omega)])
                    clear hle hr'
                    go_wp2_with (first
                      | (go_at_call 35
                         with_reducible refine (SPI.out _ HQr.out).mono ?_
                         rintro e wz ⟨rfl, rfl⟩))
                    go_roundw
                    case measure => exact HM9.out
                    case rel => exact ⟨r', HI9, rfl, HQs.out, HXs.out, HMs.out⟩
                  · have T2 : decide ((r : Int) ≤ (ri : Int)) = false := decide_eq_false (by omega)
                    have T2' : decide (r ≤ ri) = false := decide_eq_false hle
                    have HMd : Hid (Mat wr G H WD rb (fun r' c => if c = j ∧ (rh ≤ r' ∧ r' ≤ ri) then 126 else colF D n N p Hi WD (H : Int) j r' c)) := HMr.out.congr (fun r' c _ _ => by
                      have := Hr.out
                      by_cases e2 : c = j ∧ rh ≤ r' ∧ r' < r
                      · rw [if_pos e2, if_pos (by omega)]
                      · rw [if_neg e2, if_neg (by omega)])
                    have HQd := HQr
                    have HXd := HXr
                    clear hle HMr
                    go_upto_region 31 with (first
                      | (go_at_call 35
                         with_reducible refine (SPI.out _ HQr.out).mono ?_
                         rintro e wz ⟨rfl, rfl⟩))
                    clear HQr HXr cX4 T2 T2'
                    generalize wr = wd at HQd HMd HXd ⊢
                    have cR := (HR7.out.below HQd.out (Nat.lt_succ_self G)).cell rg
                    rw [rowsA_at HRGL.out (Nat.le_refl H)] at cR
                    obtain ⟨cS, fS⟩ := HMd.out.row rg HRGL.out j HJ.out
                    have cX4 := HXd.out.cell 4
                    have cX5 := HXd.out.cell 5
                    simp only [List.getElem?_toArray, List.getElem?_cons_zero, List.getElem?_cons_succ] at cX4 cX5
                    go_upto_region 31 with fail
                    go_upto_region 32 with (first
                      | (go_at_call 35
                         with_reducible refine (SPG.out _ HQd.out).mono ?_
                         rintro e wz ⟨rfl, rfl⟩))
                    have HQe : Hid (Below (G + 1) w7 (wd.setCell ⟨rb rg, j, none⟩ (.int .u8 61))) := HQd.out.setCell (p := ⟨rb rg, j, none⟩) (HMd.out.lo rg HRGL.out) _
                    have HMe := Lib.hid (HMd.out.set HRGL.out HJ.out 61)
                    have HXe : Hid (Blk (wd.setCell ⟨rb rg, j, none⟩ (.int .u8 61)) X 59 #[.string (D.Nm y), .int .i64 (D.Kd y), .int .i64 (D.Ax y), .int .i64 (D.Ay y), .int .i64 (D.Iv y), .int .i64 (D.Gd y), .slice (D.SA y) (D.SN y) (D.SC y), .bool (D.Pt y), .int .i64 (D.Rs y)]) := HXd.out.far (HXN.out rg HRGL.out) _
                    clear cR cS fS cX4 cX5 HQd HMd HXd
                    generalize wd.setCell ⟨rb rg, j, none⟩ (.int .u8 61) = we at HQe HMe HXe ⊢
                    have cR := (HR7.out.below HQe.out (Nat.lt_succ_self G)).cell ri
                    rw [rowsA_at HRIL.out (Nat.le_refl H)] at cR
                    obtain ⟨cS, fS⟩ := HMe.out.row ri HRIL.out j HJ.out
                    have cX4 := HXe.out.cell 4
                    simp only [List.getElem?_toArray, List.getElem?_cons_zero, List.getElem?_cons_succ] at cX4
                    have HQf : Hid (Below (G + 1) w7 (we.setCell ⟨rb ri, j, none⟩ (.int .u8 95))) := HQe.out.setCell (p := ⟨rb ri, j, none⟩) (HMe.out.lo ri HRIL.out) _
                    have HMf := Lib.hid ((HMe.out.set HRIL.out HJ.out 95).congr (fun r c hr hc => colF_succ (D := D) (n := n) (N := N) (p := p) (Hi := Hi) (wd := WD) (h := (H : Int)) (k := j) (R := 0) HYX.out HRI.out HRGE.out HWW.out r c))
                    go_wp2_with (first
                      | (go_at_call 35
                         with_reducible refine (SPI.out _ HQe.out).mono ?_
                         rintro e wz ⟨rfl, rfl⟩))
                    go_roundw
                    case measure => exact HMS.out
                    case rel => exact ⟨j', HJ', rfl, HQf.out, by rw [HJE.out]; exact HMf.out⟩
              · have T1 : decide (D.Iv y < Hi y) = false := decide_eq_false hw
                have HWW : Hid (∀ r : Nat, False ↔ (D.Iv y < Hi y ∧ rowZ (pTop D n N p) (pBot D n N p) (H : Int) (Hi y) ≤ (r : Int) ∧ (r : Int) ≤ rowZ (pTop D n N p) (pBot D n N p) (H : Int) (D.Iv y))) := fun r => ⟨fun h => h.elim, fun h => hw h.1⟩
                clear hw
                go_quiet (fail)
                have HQd : Hid (Below (G + 1) w7 (wb.drewN nq)) := below_drewN HQb.out _
                have HMd : Hid (Mat (wb.drewN nq) G H WD rb (fun r c => if c = j ∧ False then 126 else colF D n N p Hi WD (H : Int) j r c)) := (HMb.out.call (below_drewN (Below.refl wb.heap.size wb) nq)).congr (fun r c _ _ => by simp)
                have HXd : Hid (Blk (wb.drewN nq) X 59 #[.string (D.Nm y), .int .i64 (D.Kd y), .int .i64 (D.Ax y), .int .i64 (D.Ay y), .int .i64 (D.Iv y), .int .i64 (D.Gd y), .slice (D.SA y) (D.SN y) (D.SC y), .bool (D.Pt y), .int .i64 (D.Rs y)]) := HXb.out
                clear HQb HMb HXb cv cX4 T1
                generalize wb.drewN nq = wd at HQd HMd HXd ⊢
                have cR := (HR7.out.below HQd.out (Nat.lt_succ_self G)).cell rg
                rw [rowsA_at HRGL.out (Nat.le_refl H)] at cR
                obtain ⟨cS, fS⟩ := HMd.out.row rg HRGL.out j HJ.out
                have cX4 := HXd.out.cell 4
                have cX5 := HXd.out.cell 5
                simp only [List.getElem?_toArray, List.getElem?_cons_zero, List.getElem?_cons_succ] at cX4 cX5
                go_upto_region 31 with fail
                go_upto_region 32 with (first
                  | (go_at_call 35
                     with_reducible refine (SPG.out _ HQd.out).mono ?_
                     rintro e wz ⟨rfl, rfl⟩))
                have HQe : Hid (Below (G + 1) w7 (wd.setCell ⟨rb rg, j, none⟩ (.int .u8 61))) := HQd.out.setCell (p := ⟨rb rg, j, none⟩) (HMd.out.lo rg HRGL.out) _
                have HMe := Lib.hid (HMd.out.set HRGL.out HJ.out 61)
                have HXe : Hid (Blk (wd.setCell ⟨rb rg, j, none⟩ (.int .u8 61)) X 59 #[.string (D.Nm y), .int .i64 (D.Kd y), .int .i64 (D.Ax y), .int .i64 (D.Ay y), .int .i64 (D.Iv y), .int .i64 (D.Gd y), .slice (D.SA y) (D.SN y) (D.SC y), .bool (D.Pt y), .int .i64 (D.Rs y)]) := HXd.out.far (HXN.out rg HRGL.out) _
                clear cR cS fS cX4 cX5 HQd HMd HXd
                generalize wd.setCell ⟨rb rg, j, none⟩ (.int .u8 61) = we at HQe HMe HXe ⊢
                have cR := (HR7.out.below HQe.out (Nat.lt_succ_self G)).cell ri
                rw [rowsA_at HRIL.out (Nat.le_refl H)] at cR
                obtain ⟨cS, fS⟩ := HMe.out.row ri HRIL.out j HJ.out
                have cX4 := HXe.out.cell 4
                simp only [List.getElem?_toArray, List.getElem?_cons_zero, List.getElem?_cons_succ] at cX4
                have HQf : Hid (Below (G + 1) w7 (we.setCell ⟨rb ri, j, none⟩ (.int .u8 95))) := HQe.out.setCell (p := ⟨rb ri, j, none⟩) (HMe.out.lo ri HRIL.out) _
                have HMf := Lib.hid ((HMe.out.set HRIL.out HJ.out 95).congr (fun r c hr hc => colF_succ (D := D) (n := n) (N := N) (p := p) (Hi := Hi) (wd := WD) (h := (H : Int)) (k := j) (R := 0) HYX.out HRI.out HRGE.out HWW.out r c))
                go_wp2_with (first
                  | (go_at_call 35
                     with_reducible refine (SPI.out _ HQe.out).mono ?_
                     rintro e wz ⟨rfl, rfl⟩))
                go_roundw
                case measure => exact HMS.out
                case rel => exact ⟨j', HJ', rfl, HQf.out, by rw [HJE.out]; exact HMf.out⟩
            · have T0 : decide ((j : Int) < (WD : Int)) = false := by simp <;> omega
              have T0' : decide (j < WD) = false := decide_eq_false hlt
              obtain rfl : WD = j := by have := Hj.out; omega
              have HW9 : Hid (Below w.heap.size w wr) := below_step H3.out (HW7.out.trans (HQ.out.mono (by have := HGL.out; omega)))
              have HR9 : Hid (∀ W, Below wr.heap.size wr W → ∀ r, r < H → W.cell? ⟨G, r, none⟩ = some (.slice (some ⟨rb r, 0, none⟩) WD WD)) := fun W hW r hr => by
                have := ((HR7.out.below HQ.out (Nat.lt_succ_self G)).below hW (Blk.lt (HR7.out.below HQ.out (Nat.lt_succ_self G)))).cell r
                rw [rowsA_at hr (Nat.le_refl H)] at this
                exact this
              have HC9 : Hid (∀ W, Below wr.heap.size wr W → ∀ r, r < H → Lib.Bytes W (rb r) 0 (prow D n N p Hi WD (H : Int) (r : Int) WD)) := fun W hW r hr => colF_row ((HMq.out.row r hr).below hW (HMq.out.up r hr))
              clear hlt HQ HMq HM7
              generalize wr = w9 at HW9 HR9 HC9 ⊢
              obtain ⟨SI0, si0, sz0, sz1, sz2⟩ := info_parts1 infoS
              have SI1 := Lib.hid si0
              have SI2 := Lib.hid sz0
              have SI3 := Lib.hid sz1
              have SI4 := Lib.hid sz2
              clear si0 sz0 sz1 sz2
              go_wp2_with fail
              go_loopw [25, 193] (fun u v wr => ∃ (i : Nat) (R : List ByteArray), Hid (i ≤ H) ∧ v = .int .i64 i ∧ Hid (R = prows D n N p Hi WD (H : Int) i) ∧ Hid (RMem5 w9 wr u i R)) (fun _ v _ => H - (RowKit.intOf v).toNat)
              case atStart => exact ⟨0, [], Nat.zero_le _, rfl, rfl, World.ownsRow_nil _ _ _ _, Below.refl _ _⟩
              case round =>
                obtain ⟨i, R, Hi9, rfl, HR, HQ⟩ := hrel
                obtain ⟨A8, cap8, h8⟩ := HQ.out.form
                subst h8
                by_cases hlt : i < H
                · have T0 : decide ((i : Int) < (H : Int)) = true := by simp <;> omega
                  have T0' : decide (i < H) = true := decide_eq_true hlt
                  obtain ⟨i', hi'⟩ : ∃ z, z = i + 1 := ⟨_, rfl⟩
                  have x0 : IntKind.i64.wrap ((i : Int) + 1) = (i' : Int) := by have := HRG.out; rw [IntKind.wrap_i64]; omega
                  have HMS : Hid (H - (RowKit.intOf (Value.int .i64 (i' : Int))).toNat < H - (RowKit.intOf (Value.int .i64 (i : Int))).toNat) := by show _ < _; simp [RowKit.intOf]; omega
                  have HI' : Hid (i' ≤ H) := by show i' ≤ H; omega
                  have HIE : Hid (i + 1 = i') := hi'.symm
                  have kk0 : (0 : Int) ≤ (i : Int) := by omega
                  have kk1 : (i : Int) < (H : Int) := by omega
                  have HN2 : Hid (i ≤ 2000) := by show i ≤ 2000; have := HRG.out; omega
                  have cR := HR9.out wr HQ.out.2 i hlt
                  have hcv := run_convert_whole' (P := Tryz.prog) wr 81 5 9 Tryz.underlying81 Tryz.underlying5 Tryz.underlying9 (rb i) _ (HC9.out wr HQ.out.2 i hlt) WD WD (prow_size _ _ _ _ _ _ _ _ _)
                  have HS9 : Hid (R ++ [prow D n N p Hi WD (H : Int) (i : Int) WD] = prows D n N p Hi WD (H : Int) i') := by show _ = _; rw [HR.out, ← HIE.out, prows_succ]
                  generalize prow D n N p Hi WD (H : Int) (i : Int) WD = l1 at hcv HS9
                  clear hlt hi'
                  go_wp2_with (first
                    | (at_builtin; refine wpList_append_own_at _ ?pa (.tmp 197) (.tmp 200) 27 ?pb (w9.heap.size) 9 SI0 (.string ByteArray.empty) 1 16 Tryz.underlying27 SI1.out SI2.out SI3.out SI4.out ?pc ?pd (.slice A8 i cap8) (i) (sc R) ?pe (HQ.out.1.alloc _) (⟨wr.heap.size, 0, none⟩) (1) (1) ([.string l1]) ?pg (rfl) (World.news_of_block (cs := #[.string l1]) (t := 9) (fr := (0, 0)) (heap_alloc_new _ _)) ((by simp [Value.oneCell'])) (h63_1 HN2.out) (hby_1 HN2.out) (Nat.le_trans HQ.out.2.size (by simp)) ?ph
                       case pa => exact rfl
                       case pb => exact rfl
                       case pc => exact rfl
                       case pd => decide
                       case pe => exact rfl
                       case pg => exact rfl
                       intro v2 w7 hown2 hgrow2 hnil2 hat2
                       have HQ2 := Lib.hid (HQ.out.app hown2 hgrow2)
                       clear hown2 hgrow2 hnil2 hat2))
                  go_roundw
                  case measure => exact HMS.out
                  case rel => exact ⟨i', R ++ [l1], HI', rfl, HS9, by rw [← HIE.out]; exact HQ2.out⟩
                · have T0 : decide ((i : Int) < (H : Int)) = false := by simp <;> omega
                  have T0' : decide (i < H) = false := decide_eq_false hlt
                  obtain rfl : H = i := by have := Hi9.out; omega
                  clear hlt
                  go_wp2_with fail
                  go_ret2
                  exact HQ.out.lin HW9.out (by rw [HR.out, prows_len]) (by have := HRG.out; omega) (by rw [HR.out]; exact HPI.out)
end Go.Proofs.YtdgfljkhnifemaaGreatDoor

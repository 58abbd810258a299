/- The reference's row of a level, and column of a plot. -/
import Derived.Test.YtdgfljkhnifemaaGreatDoorMat
namespace Go.Proofs.YtdgfljkhnifemaaGreatDoor
open Go.RowKit
set_option linter.unusedVariables false
set_option linter.unusedSimpArgs false

theorem rrow55 (top bot h z : Int) (hh : 2 ≤ h ∧ h ≤ 100) (ht : -4194304 ≤ bot ∧ bot ≤ top ∧ top ≤ 4194304) (w : World) :
    Calls Tryz.prog 70 #[.int .i64 z, .int .i64 top, .int .i64 bot, .int .i64 h] w fun e w' => e = .returned (.int .i64 (rowZ top bot h z)) ∧ w = w' := by
  unfold rowZ
  by_cases h1 : top ≤ z
  · rw [if_pos h1]
    have t1 : decide (top ≤ z) = true := decide_eq_true h1
    clear h1 hh ht
    go_enter Tryz.func70, Tryz.ntmps70
    go_wp2_with fail
    go_ret
    exact ⟨rfl, rfl⟩
  have t1 : decide (top ≤ z) = false := decide_eq_false h1
  by_cases h2 : z < bot
  · rw [if_neg h1, if_pos h2]
    have t2 : decide (z < bot) = true := decide_eq_true h2
    have x1 : IntKind.i64.wrap (h - 1) = h - 1 := by rw [IntKind.wrap_i64]; omega
    clear h1 h2 hh ht
    go_enter Tryz.func70, Tryz.ntmps70
    go_wp2_with fail
    go_ret
    exact ⟨rfl, rfl⟩
  have t2 : decide (z < bot) = false := decide_eq_false h2
  rw [if_neg h1, if_neg h2]
  obtain ⟨a, ha⟩ : ∃ a, a = top - z := ⟨_, rfl⟩
  obtain ⟨b, hb⟩ : ∃ a, a = top - bot := ⟨_, rfl⟩
  obtain ⟨c, hc⟩ : ∃ a, a = h - 1 := ⟨_, rfl⟩
  have ha2 : 0 ≤ a ∧ a ≤ 8388608 := by omega
  have hb2 : 1 ≤ b ∧ b ≤ 8388608 := by omega
  have hc2 : 1 ≤ c ∧ c ≤ 99 := by omega
  have hac : 0 ≤ a * c ∧ a * c ≤ 8388608 * 99 := ⟨Int.mul_nonneg ha2.1 (by omega), by
    have := Int.mul_le_mul ha2.2 hc2.2 (by omega) (by omega)
    exact this⟩
  have x1 : IntKind.i64.wrap (top - z) = a := by rw [IntKind.wrap_i64]; omega
  have x2 : IntKind.i64.wrap (h - 1) = c := by rw [IntKind.wrap_i64]; omega
  have x3 : IntKind.i64.wrap (a * c) = a * c := by
    generalize a * c = m at hac
    rw [IntKind.wrap_i64]; omega
  have x4 : IntKind.i64.wrap (top - bot) = b := by rw [IntKind.wrap_i64]; omega
  have x5 : (b == 0) = false := by simp; omega
  have x6 : IntKind.i64.wrap ((a * c).tdiv b) = a * c / b := by
    rw [Int.tdiv_eq_ediv_of_nonneg hac.1]
    have h5 : 0 ≤ a * c / b := Int.ediv_nonneg hac.1 (by omega)
    have h6 : a * c / b ≤ a * c := Int.ediv_le_self _ hac.1
    generalize a * c / b = q at h5 h6
    generalize a * c = m at hac h6
    rw [IntKind.wrap_i64]; omega
  rw [← ha, ← hb, ← hc]
  have bne : b ≠ 0 := by omega
  clear h1 h2 hh ht ha hb hc ha2 hb2 hc2 hac
  go_enter Tryz.func70, Tryz.ntmps70
  go_wp2_with fail
  go_ret
  exact ⟨rfl, rfl⟩
theorem infoU8r : (Tryz.prog.info? 5).map (fun i => (i.zero, i.size, i.bytes)) = some (some (.int .u8 0), 1, 1) := by kernel_rfl
theorem run_col (H : Nat) (w : World) (h : (H : Int) ≤ 100) : (Instr.makeSlice 81 (.int .i64 (H : Int)) (.int .i64 (H : Int))).run Tryz.prog w = .ok (.slice (some ⟨w.heap.size, 0, none⟩) H H) (w.alloc (.cells (Array.replicate H (.int .u8 0)) 5)) := by
  obtain ⟨i, hi, hzz⟩ := Option.map_eq_some_iff.1 infoU8r
  simp only [Prod.mk.injEq] at hzz
  obtain ⟨hz, hs, hb⟩ := hzz
  have hr := run_makeSlice (P := Tryz.prog) w 81 5 i (.int .u8 0) Tryz.underlying81 hi hz .i64 .i64 (H : Int) (H : Int) (by omega) (by omega) (by rw [hs]; omega) (by rw [hb]; omega) (by omega)
  rw [Int.toNat_natCast, hs, Nat.mul_one] at hr
  have e : madeCells (Value.int .u8 0).cells H = Array.replicate H (Value.int .u8 0) := by
    apply Array.toList_inj.1
    rw [show (Value.int .u8 0).cells = #[Value.int .u8 0] from rfl, toList_madeCells_one]
    simp
  rw [hr, e]
/-- A column, drawn so far. -/
def cvF (ri rg : Nat) (W : Nat → Prop) [DecidablePred W] (r : Nat) : Int := if r = ri then 95 else if r = rg then 61 else if W r then 126 else 32
theorem cvF_chr {top bot h gd iv hi : Int} {ri rg : Nat} (hri : (ri : Int) = rowZ top bot h iv) (hrg : (rg : Int) = rowZ top bot h gd) {W : Nat → Prop} [DecidablePred W] (hW : ∀ r : Nat, W r ↔ (iv < hi ∧ rowZ top bot h hi ≤ (r : Int) ∧ (r : Int) ≤ rowZ top bot h iv)) (r : Nat) :
    cvF ri rg W r = ((chr top bot h gd iv hi (r : Int)).toNat : Int) := by
  unfold cvF chr
  rw [← hri, ← hrg]
  by_cases e1 : r = ri
  · subst e1; simp
  · have e1' : ¬ (r : Int) = (ri : Int) := by omega
    simp only [e1, e1', if_false]
    by_cases e2 : r = rg
    · subst e2; simp
    · have e2' : ¬ (r : Int) = (rg : Int) := by omega
      simp only [e2, e2', if_false]
      by_cases e3 : W r
      · have e4 := (hW r).1 e3
        rw [← hri] at e4
        rw [if_pos e3, if_pos e4]
        rfl
      · have e4 : ¬ _ := fun q => e3 ((hW r).2 q)
        rw [← hri] at e4
        rw [if_neg e3, if_neg e4]
        rfl
set_option maxRecDepth 100000 in
set_option maxHeartbeats 8000000 in
theorem rcol (nm : ByteArray) (kd ax ay iv gd : Int) (A : Option Addr) (an ac : Nat) (pt : Bool) (rs lo hi top bot : Int) (H : Nat) (hh : 2 ≤ H ∧ H ≤ 100) (ht : -4194304 ≤ bot ∧ bot ≤ top ∧ top ≤ 4194304) (w : World) :
    Calls Tryz.prog 42 #[.agg #[.string nm, .int .i64 kd, .int .i64 ax, .int .i64 ay, .int .i64 iv, .int .i64 gd, .slice A an ac, .bool pt, .int .i64 rs], .agg #[.int .i64 lo, .int .i64 hi], .int .i64 top, .int .i64 bot, .int .i64 (H : Int)] w fun e w' => ∃ g, e = .returned (.slice (some ⟨g, 0, none⟩) H H) ∧ w.heap.size ≤ g ∧ g < w'.heap.size ∧ RowOf w' g H (fun r => ((chr top bot (H : Int) gd iv hi (r : Int)).toNat : Int)) ∧ Below w.heap.size w w' := by
  have HH : Hid (2 ≤ H ∧ H ≤ 100) := hh
  have hZ : (2 : Int) ≤ (H : Int) ∧ (H : Int) ≤ 100 := by omega
  have SZ := Lib.hid fun z w => rrow55 top bot (H : Int) z hZ ht w
  have hbd := fun z => rowZ_bd (top := top) (bot := bot) (h := (H : Int)) (z := z) (by omega)
  obtain ⟨ri, hri⟩ : ∃ z : Nat, (z : Int) = rowZ top bot (H : Int) iv := ⟨(rowZ top bot (H : Int) iv).toNat, Int.toNat_of_nonneg (hbd iv).1⟩
  obtain ⟨rg, hrg⟩ : ∃ z : Nat, (z : Int) = rowZ top bot (H : Int) gd := ⟨(rowZ top bot (H : Int) gd).toNat, Int.toNat_of_nonneg (hbd gd).1⟩
  obtain ⟨rh, hrh⟩ : ∃ z : Nat, (z : Int) = rowZ top bot (H : Int) hi := ⟨(rowZ top bot (H : Int) hi).toNat, Int.toNat_of_nonneg (hbd hi).1⟩
  have HRIL : Hid (ri < H) := by show ri < H; have := (hbd iv).2; omega
  have HRGL : Hid (rg < H) := by show rg < H; have := (hbd gd).2; omega
  have HRHL : Hid (rh < H) := by show rh < H; have := (hbd hi).2; omega
  have SI := Lib.hid (SZ.out iv)
  have SG := Lib.hid (SZ.out gd)
  have SH := Lib.hid (SZ.out hi)
  rw [← hri] at SI
  rw [← hrg] at SG
  rw [← hrh] at SH
  have HW1 : Hid (iv < hi → ∀ r : Nat, (rh ≤ r ∧ r ≤ ri) ↔ (iv < hi ∧ rowZ top bot (H : Int) hi ≤ (r : Int) ∧ (r : Int) ≤ rowZ top bot (H : Int) iv)) := fun h r => by rw [← hrh, ← hri]; omega
  have HRI := Lib.hid hri
  have HRG := Lib.hid hrg
  have hH2 : (H : Int) ≤ 100 := hZ.2
  have a0 : (0 : Int) ≤ (ri : Int) := by omega
  have a1 : (ri : Int) < (H : Int) := by have := HRIL.out; omega
  have a1' : ri < H := HRIL.out
  have a2 : (0 : Int) ≤ (rg : Int) := by omega
  have a3 : (rg : Int) < (H : Int) := by have := HRGL.out; omega
  have a3' : rg < H := HRGL.out
  have HB1 : Hid (Blk ((w.alloc (Obj.cells #[.string nm, .int .i64 kd, .int .i64 ax, .int .i64 ay, .int .i64 iv, .int .i64 gd, .slice A an ac, .bool pt, .int .i64 rs] 59)).alloc (Obj.cells #[.int .i64 lo, .int .i64 hi] 53)) w.heap.size 59 #[.string nm, .int .i64 kd, .int .i64 ax, .int .i64 ay, .int .i64 iv, .int .i64 gd, .slice A an ac, .bool pt, .int .i64 rs]) := (Blk.new w 59 _).alloc _
  have HB2 : Hid (Blk ((w.alloc (Obj.cells #[.string nm, .int .i64 kd, .int .i64 ax, .int .i64 ay, .int .i64 iv, .int .i64 gd, .slice A an ac, .bool pt, .int .i64 rs] 59)).alloc (Obj.cells #[.int .i64 lo, .int .i64 hi] 53)) (w.heap.size + 1) 53 #[.int .i64 lo, .int .i64 hi]) := by show Blk _ _ _ _; have := Blk.new (w.alloc (Obj.cells #[.string nm, .int .i64 kd, .int .i64 ax, .int .i64 ay, .int .i64 iv, .int .i64 gd, .slice A an ac, .bool pt, .int .i64 rs] 59)) 53 #[.int .i64 lo, .int .i64 hi]; simpa using this
  have HW0 : Hid (Below w.heap.size w ((w.alloc (Obj.cells #[.string nm, .int .i64 kd, .int .i64 ax, .int .i64 ay, .int .i64 iv, .int .i64 gd, .slice A an ac, .bool pt, .int .i64 rs] 59)).alloc (Obj.cells #[.int .i64 lo, .int .i64 hi] 53))) := ((Below.refl _ w).alloc (Nat.le_refl _) _).alloc (by simp) _
  have HSZ : Hid (((w.alloc (Obj.cells #[.string nm, .int .i64 kd, .int .i64 ax, .int .i64 ay, .int .i64 iv, .int .i64 gd, .slice A an ac, .bool pt, .int .i64 rs] 59)).alloc (Obj.cells #[.int .i64 lo, .int .i64 hi] 53)).heap.size = w.heap.size + 1 + 1) := by show _ = _; simp
  have hmk := run_col H ((w.alloc (Obj.cells #[.string nm, .int .i64 kd, .int .i64 ax, .int .i64 ay, .int .i64 iv, .int .i64 gd, .slice A an ac, .bool pt, .int .i64 rs] 59)).alloc (Obj.cells #[.int .i64 lo, .int .i64 hi] 53)) hH2
  clear hri hrg hrh hbd hZ SZ hh ht
  go_enter Tryz.func42, Tryz.ntmps42
  go_upto_region 2 with fail
  clear hmk
  generalize (w.alloc (Obj.cells #[.string nm, .int .i64 kd, .int .i64 ax, .int .i64 ay, .int .i64 iv, .int .i64 gd, .slice A an ac, .bool pt, .int .i64 rs] 59)).alloc (Obj.cells #[.int .i64 lo, .int .i64 hi] 53) = w1 at HB1 HB2 HW0 HSZ ⊢
  have HR1 : Hid (RowOf (w1.alloc (Obj.cells (Array.replicate H (.int .u8 0)) 5)) w1.heap.size H (fun r => if r < 0 then 32 else 0)) := fun r hr => ⟨((Blk.new w1 5 (Array.replicate H (.int .u8 0))).cell r).trans (by simp [hr]), (Blk.new w1 5 (Array.replicate H (.int .u8 0))).frozen r⟩
  have HW1b : Hid (Below w.heap.size w (w1.alloc (Obj.cells (Array.replicate H (.int .u8 0)) 5))) := HW0.out.alloc HW0.out.size _
  have HBa := Lib.hid (HB1.out.alloc (Obj.cells (Array.replicate H (.int .u8 0)) 5))
  have HBb := Lib.hid (HB2.out.alloc (Obj.cells (Array.replicate H (.int .u8 0)) 5))
  have HGL : Hid (w.heap.size < w1.heap.size ∧ w.heap.size + 1 < w1.heap.size) := ⟨HB1.out.lt, HB2.out.lt⟩
  have HGS : Hid (w1.heap.size < (w1.alloc (Obj.cells (Array.replicate H (.int .u8 0)) 5)).heap.size) := by show _ < _; simp
  clear HB1 HB2 HW0
  generalize w1.alloc (Obj.cells (Array.replicate H (.int .u8 0)) 5) = w2 at HR1 HW1b HBa HBb HGS ⊢
  rw [HSZ.out] at HR1 HGL HGS
  clear HSZ
  generalize w.heap.size + 1 + 1 = G at HR1 HGL HGS ⊢
  go_wp2_with fail
  go_loopw [12] (fun u wr => ∃ i : Nat, Hid (i ≤ H) ∧ u = .int .i64 i ∧ Hid (Below G w2 wr) ∧ Hid (RowOf wr G H (fun r => if r < i then 32 else 0))) (fun u _ => H - (RowKit.intOf u).toNat)
  case atStart => exact ⟨0, Nat.zero_le _, rfl, Below.refl _ _, HR1.out⟩
  case round =>
    obtain ⟨i, Hi, rfl, HQ, HR⟩ := hrel
    by_cases hlt : i < H
    · have T0 : decide ((i : Int) < (H : Int)) = true := by simp <;> omega
      have T0' : decide (i < H) = true := decide_eq_true hlt
      obtain ⟨i', hi'⟩ : ∃ z, z = i + 1 := ⟨_, rfl⟩
      have x0 : IntKind.i64.wrap ((i : Int) + 1) = (i' : Int) := by have := HH.out; rw [IntKind.wrap_i64]; omega
      have HMS : Hid (H - (RowKit.intOf (Value.int .i64 (i' : Int))).toNat < H - (RowKit.intOf (Value.int .i64 (i : Int))).toNat) := by show _ < _; simp [RowKit.intOf]; omega
      have HI' : Hid (i' ≤ H) := by show i' ≤ H; omega
      have kk0 : (0 : Int) ≤ (i : Int) := by omega
      have kk1 : (i : Int) < (H : Int) := by omega
      obtain ⟨cS0, fS⟩ := HR.out i hlt
      have cS1 : ∃ v, wr.cell? ⟨G, i, none⟩ = some (.int .u8 v) := ⟨_, cS0⟩
      obtain ⟨v, cS⟩ := cS1
      clear cS0
      have HQ2 : Hid (Below G w2 (wr.setCell ⟨G, i, none⟩ (.int .u8 32))) := HQ.out.setCell (p := ⟨G, i, none⟩) (Nat.le_refl _) _
      have HR2 : Hid (RowOf (wr.setCell ⟨G, i, none⟩ (.int .u8 32)) G H (fun r => if r < i' then 32 else 0)) := (HR.out.set hlt 32).congr (fun r _ => by
        rw [hi']
        by_cases e : r = i
        · rw [if_pos e, if_pos (by omega)]
        · rw [if_neg e]
          by_cases e2 : r < i
          · rw [if_pos e2, if_pos (by omega)]
          · rw [if_neg e2, if_neg (by omega)])
      clear hlt hi'
      go_wp2_with fail
      go_roundw
      case rel => exact ⟨i', HI', rfl, HQ2, HR2⟩
      case measure => exact HMS.out
    · have T0 : decide ((i : Int) < (H : Int)) = false := by simp <;> omega
      have T0' : decide (i < H) = false := decide_eq_false hlt
      obtain rfl : H = i := by have := Hi.out; omega
      have HR3 : Hid (RowOf wr G H (fun _ => 32)) := HR.out.congr (fun r hr => if_pos hr)
      have HWc := Lib.hid (HW1b.out.trans (HQ.out.mono (by have := HGL.out; omega)))
      have HB1 := Lib.hid (HBa.out.below HQ.out HGL.out.1)
      have HB2 := Lib.hid (HBb.out.below HQ.out HGL.out.2)
      have HG3 : Hid (G < wr.heap.size) := Nat.lt_of_lt_of_le HGS.out HQ.out.size
      clear hlt HR HR1 HBa HBb HQ HGS HW1b
      generalize wr = w3 at HR3 HWc HB1 HB2 HG3 ⊢
      have c4 := HB1.out.cell 4
      have c5 := HB1.out.cell 5
      simp only [List.getElem?_toArray, List.getElem?_cons_zero, List.getElem?_cons_succ] at c4 c5
      obtain ⟨cS0, fS⟩ := HR3.out rg HRGL.out
      have cS1 : ∃ v, w3.cell? ⟨G, rg, none⟩ = some (.int .u8 v) := ⟨_, cS0⟩
      obtain ⟨v, cS⟩ := cS1
      clear cS0
      go_upto_region 8 with (first
        | (go_at_call 70
           with_reducible refine (SI.out _).mono ?_
           rintro e wz ⟨rfl, rfl⟩)
        | (go_at_call 70
           with_reducible refine (SG.out _).mono ?_
           rintro e wz ⟨rfl, rfl⟩))
      have HR4 := Lib.hid (HR3.out.set HRGL.out 61)
      have HB3 : Hid (Blk (w3.setCell ⟨G, rg, none⟩ (.int .u8 61)) w.heap.size 59 #[.string nm, .int .i64 kd, .int .i64 ax, .int .i64 ay, .int .i64 iv, .int .i64 gd, .slice A an ac, .bool pt, .int .i64 rs]) := HB1.out.far (by have := HGL.out; show w.heap.size ≠ G; omega) _
      have HB4 : Hid (Blk (w3.setCell ⟨G, rg, none⟩ (.int .u8 61)) (w.heap.size + 1) 53 #[.int .i64 lo, .int .i64 hi]) := HB2.out.far (by have := HGL.out; show w.heap.size + 1 ≠ G; omega) _
      have HWd : Hid (Below w.heap.size w (w3.setCell ⟨G, rg, none⟩ (.int .u8 61))) := HWc.out.setCell (p := ⟨G, rg, none⟩) (by have := HGL.out; show w.heap.size ≤ G; omega) _
      have HG4 : Hid (G < (w3.setCell ⟨G, rg, none⟩ (.int .u8 61)).heap.size) := by show _ < _; rw [size_setCell]; exact HG3.out
      clear cS fS c4 c5 HR3 HB1 HB2 HWc HG3
      generalize w3.setCell ⟨G, rg, none⟩ (.int .u8 61) = w4 at HR4 HB3 HB4 HWd HG4 ⊢
      obtain ⟨cS0, fS⟩ := HR4.out ri HRIL.out
      have cS1 : ∃ v, w4.cell? ⟨G, ri, none⟩ = some (.int .u8 v) := ⟨_, cS0⟩
      obtain ⟨v, cS⟩ := cS1
      clear cS0
      have HR5 : Hid (RowOf (w4.setCell ⟨G, ri, none⟩ (.int .u8 95)) G H (cvF ri rg (fun _ => False))) := (HR4.out.set HRIL.out 95).congr (fun r _ => by unfold cvF; simp)
      have HB5 : Hid (Blk (w4.setCell ⟨G, ri, none⟩ (.int .u8 95)) w.heap.size 59 #[.string nm, .int .i64 kd, .int .i64 ax, .int .i64 ay, .int .i64 iv, .int .i64 gd, .slice A an ac, .bool pt, .int .i64 rs]) := HB3.out.far (by have := HGL.out; show w.heap.size ≠ G; omega) _
      have HB6 : Hid (Blk (w4.setCell ⟨G, ri, none⟩ (.int .u8 95)) (w.heap.size + 1) 53 #[.int .i64 lo, .int .i64 hi]) := HB4.out.far (by have := HGL.out; show w.heap.size + 1 ≠ G; omega) _
      have HWe : Hid (Below w.heap.size w (w4.setCell ⟨G, ri, none⟩ (.int .u8 95))) := HWd.out.setCell (p := ⟨G, ri, none⟩) (by have := HGL.out; show w.heap.size ≤ G; omega) _
      have HG5 : Hid (G < (w4.setCell ⟨G, ri, none⟩ (.int .u8 95)).heap.size) := by show _ < _; rw [size_setCell]; exact HG4.out
      go_upto_region 9 with fail
      clear cS fS HR4 HB3 HB4 HWd HG4
      generalize w4.setCell ⟨G, ri, none⟩ (.int .u8 95) = w5 at HR5 HB5 HB6 HWe HG5 ⊢
      have c4 := HB5.out.cell 4
      have c1 := HB6.out.cell 1
      simp only [List.getElem?_toArray, List.getElem?_cons_zero, List.getElem?_cons_succ] at c4 c1
      by_cases hw : iv < hi
      · have T1 : decide (iv < hi) = true := decide_eq_true hw
        have HWW := Lib.hid (HW1.out hw)
        clear hw HW1
        go_wp2_with (first
          | (go_at_call 70
             with_reducible refine (SH.out _).mono ?_
             rintro e wz ⟨rfl, rfl⟩))
        go_loopw [14] (fun u wr => ∃ r : Nat, Hid (rh ≤ r ∧ r ≤ H ∧ (r ≤ rh ∨ r ≤ ri + 1)) ∧ u = .int .i64 r ∧ Hid (Below G w5 wr) ∧ Hid (RowOf wr G H (cvF ri rg (fun r' => rh ≤ r' ∧ r' < r)))) (fun u _ => H + 1 - (RowKit.intOf u).toNat)
        case atStart => exact ⟨rh, by show _ ∧ _; have := HRHL.out; omega, rfl, Below.refl _ _, HR5.out.congr (fun r _ => by unfold cvF; simp; omega)⟩
        case round =>
          obtain ⟨r, Hr, rfl, HQ, HR⟩ := hrel
          by_cases hle : r ≤ ri
          · have T2 : decide ((r : Int) ≤ (ri : Int)) = true := decide_eq_true (by omega)
            have T2' : decide (r ≤ ri) = true := decide_eq_true hle
            have HRL : Hid (r < H) := by show r < H; have := HRIL.out; omega
            obtain ⟨r', hr'⟩ : ∃ z, z = r + 1 := ⟨_, rfl⟩
            have x9 : IntKind.i64.wrap ((r : Int) + 1) = (r' : Int) := by have := HH.out; have := HRL.out; rw [IntKind.wrap_i64]; omega
            have HI9 : Hid (rh ≤ r' ∧ r' ≤ H ∧ (r' ≤ rh ∨ r' ≤ ri + 1)) := by show _ ∧ _; have := Hr.out; have := HRL.out; omega
            have HM9 : Hid (H + 1 - (RowKit.intOf (Value.int .i64 (r' : Int))).toNat < H + 1 - (RowKit.intOf (Value.int .i64 (r : Int))).toNat) := by show _ < _; have := HRL.out; simp [RowKit.intOf]; omega
            have b0 : (0 : Int) ≤ (r : Int) := by omega
            have b1 : (r : Int) < (H : Int) := by have := HRL.out; omega
            have b2 : r < H := HRL.out
            obtain ⟨cS, fS⟩ := HR.out r HRL.out
            by_cases e1 : r = ri ∨ r = rg
            · have cS' : ∃ v : Int, (v == 32) = false ∧ wr.cell? ⟨G, r, none⟩ = some (.int .u8 v) := by
                refine ⟨_, ?_, cS⟩
                unfold cvF
                rcases e1 with e1 | e1
                · rw [if_pos e1]; rfl
                · by_cases e2 : r = ri
                  · rw [if_pos e2]; rfl
                  · rw [if_neg e2, if_pos e1]; rfl
              obtain ⟨v, hv, cV⟩ := cS'
              have HRn : Hid (RowOf wr G H (cvF ri rg (fun r'' => rh ≤ r'' ∧ r'' < r'))) := HR.out.congr (fun r'' _ => by
                unfold cvF
                rw [hr']
                by_cases e2 : r'' = ri
                · simp [e2]
                by_cases e3 : r'' = rg
                · simp [e3]
                rw [if_neg e2, if_neg e3, if_neg e2, if_neg e3]
                by_cases e4 : rh ≤ r'' ∧ r'' < r
                · rw [if_pos e4, if_pos (by omega)]
                · rw [if_neg e4, if_neg (by omega)])
              clear cS hle hr' e1
              go_wp2_with fail
              go_roundw
              case measure => exact HM9.out
              case rel => exact ⟨r', HI9, rfl, HQ, HRn⟩
            · have e2 : ¬ r = ri := fun h => e1 (.inl h)
              have e3 : ¬ r = rg := fun h => e1 (.inr h)
              have ev : cvF ri rg (fun r' => rh ≤ r' ∧ r' < r) r = 32 := by
                unfold cvF
                rw [if_neg e2, if_neg e3, if_neg (by omega)]
              rw [ev] at cS
              have HQs : Hid (Below G w5 (wr.setCell ⟨G, r, none⟩ (.int .u8 126))) := HQ.out.setCell (p := ⟨G, r, none⟩) (Nat.le_refl _) _
              have HRn : Hid (RowOf (wr.setCell ⟨G, r, none⟩ (.int .u8 126)) G H (cvF ri rg (fun r'' => rh ≤ r'' ∧ r'' < r'))) := (HR.out.set HRL.out 126).congr (fun r'' _ => by
                have := Hr.out.1
                unfold cvF
                rw [hr']
                by_cases e4 : r'' = r
                · rw [if_pos e4, e4, if_neg e2, if_neg e3, if_pos (by omega)]
                rw [if_neg e4]
                by_cases e5 : r'' = ri
                · simp [e5]
                by_cases e6 : r'' = rg
                · simp [e6]
                rw [if_neg e5, if_neg e6, if_neg e5, if_neg e6]
                by_cases e7 : rh ≤ r'' ∧ r'' < r
                · rw [if_pos e7, if_pos (by omega)]
                · rw [if_neg e7, if_neg (by omega)])
              clear hle hr' e1 e2 e3 ev
              go_wp2_with fail
              go_roundw
              case measure => exact HM9.out
              case rel => exact ⟨r', HI9, rfl, HQs, HRn⟩
          · have T2 : decide ((r : Int) ≤ (ri : Int)) = false := decide_eq_false (by omega)
            have T2' : decide (r ≤ ri) = false := decide_eq_false hle
            have HRn : Hid (RowOf wr G H (fun r => ((chr top bot (H : Int) gd iv hi (r : Int)).toNat : Int))) := HR.out.congr (fun r' _ => by
              rw [← cvF_chr HRI.out HRG.out HWW.out r']
              have := Hr.out
              unfold cvF
              by_cases e5 : r' = ri
              · simp [e5]
              by_cases e6 : r' = rg
              · simp [e6]
              rw [if_neg e5, if_neg e6, if_neg e5, if_neg e6]
              by_cases e7 : rh ≤ r' ∧ r' < r
              · rw [if_pos e7, if_pos (by omega)]
              · rw [if_neg e7, if_neg (by omega)])
            clear hle
            go_wp2_with fail
            go_ret
            exact ⟨G, rfl, by have := HGL.out; omega, Nat.lt_of_lt_of_le HG5.out HQ.out.size, HRn.out, HWe.out.trans (HQ.out.mono (by have := HGL.out; omega))⟩
      · have T1 : decide (iv < hi) = false := decide_eq_false hw
        have HRn : Hid (RowOf w5 G H (fun r => ((chr top bot (H : Int) gd iv hi (r : Int)).toNat : Int))) := HR5.out.congr (fun r' _ => cvF_chr HRI.out HRG.out (fun r => ⟨fun h => h.elim, fun h => hw h.1⟩) r')
        clear hw
        go_wp2_with fail
        go_ret
        exact ⟨G, rfl, by have := HGL.out; omega, HG5.out, HRn.out, HWe.out⟩
end Go.Proofs.YtdgfljkhnifemaaGreatDoor

/- bytes.Repeat at one byte; the row of a level in a plot. -/
import Derived.Test.YtdgfljkhnifemaaGreatDoorMat
import Derived.Test.YtdgfljkhnifemaaGreatDoorLeaf
import Derived.Lib.MakeNoZero
namespace Go.Proofs.YtdgfljkhnifemaaGreatDoor
open Go.RowKit
set_option linter.unusedVariables false
set_option linter.unusedSimpArgs false

theorem tmul1 (y : Nat) (hy : y ≤ 200) (w : World) : Calls Tryz.prog 63 #[.int .u64 1, .int .u64 y] w fun e w' => e = .returned (.tuple #[.int .u64 0, .int .u64 y]) ∧ w = w' := by
  have SM : Hid (∀ w, Calls Tryz.prog 90 #[.int .u64 1, .int .u64 y] w fun e w' => e = .returned (.tuple #[.int .u64 0, .int .u64 y]) ∧ w = w') := fun w => by
    have := mul64 1 y (by omega) (by omega) w
    have e1 : hi64 (1 * y) = 0 := by unfold hi64; rw [Nat.one_mul, Nat.div_eq_of_lt (by omega)]; rfl
    have e2 : lo64 (1 * y) = (y : Int) := by unfold lo64; rw [Nat.one_mul, Nat.mod_eq_of_lt (by omega)]
    rw [e1, e2] at this
    exact this
  clear hy
  go_enter Tryz.func63, Tryz.ntmps63
  go_wp2_with (go_at_call 90
               with_reducible refine (SM.out _).mono ?_
               rintro e w1 ⟨rfl, rfl⟩)
  go_ret2
  exact ⟨rfl, rfl⟩
theorem infoU8s : (Tryz.prog.info? 5).map (·.size) = some 1 := by kernel_rfl
/-- copy in a region that draws. -/
theorem step_copy_run {P : Program} (w : World) {ops : Array Oper} {o : Oper} {a : Act} {K : Act → World → Prop} {Q : Exit → Act → World → Prop} {E : Prop} (hgd : o.guard = none) (d s : Operand) (t t' : TypeId)
    (ho : o.op = .call { callee := .builtin .copy, args := #[d, s], argTypes := #[t, t'] }) (v u : Value) (hd : a.eval d = v) (hs : a.eval s = u) {v' : Value} {w' : World}
    (hr : (Builtin.copy_ #[t, t'] o.type #[v, u]).run P w = .ok v' w') (h : K (a.put o.dst v') w') : if Region.wanted o (yielded ops a.tmps) = true then Oper.wp P o a w K Q else E := by
  have hw : Region.wanted o (yielded ops a.tmps) = true := by simp [Region.wanted, hgd]
  rw [if_pos hw]
  exact Lib.wp_copy_run w d s t t' ho v u hd hs hr h
theorem Buf_drew {w0 wr : World} {h N : Nat} {acc : List UInt8} (hb : Lib.Buf w0 wr h N acc) : Lib.Buf w0 wr.drew h N acc :=
  ⟨⟨hb.below.os, hb.below.tape, hb.below.output, hb.below.size, hb.below.block⟩, hb.there, hb.free, hb.holds, hb.fits⟩
theorem sizeU8 : ∀ w, (Go.sizeOf 5).run Tryz.prog w = .ok 1 w := fun w => by kernel_rfl
set_option maxRecDepth 100000 in
set_option maxHeartbeats 4000000 in
theorem trepeat (sb cp : Nat) (x : UInt8) (wd : Nat) (h1 : 1 ≤ wd) (h2 : wd ≤ 200) (w : World) (hx : w.cell? ⟨sb, 0, none⟩ = some (.int .u8 (x.toNat : Int))) (hsb : sb < w.heap.size) :
    Calls Tryz.prog 36 #[.slice (some ⟨sb, 0, none⟩) 1 cp, .int .i64 wd] w fun e w' => ∃ g, e = .returned (.slice (some ⟨g, 0, none⟩) wd wd) ∧ w.heap.size ≤ g ∧ g < w'.heap.size ∧ RowOf w' g wd (fun _ => (x.toNat : Int)) ∧ Below w.heap.size w w' := by
  have SM := Lib.hid fun w => tmul1 wd h2 w
  have HW : Hid (1 ≤ wd ∧ wd ≤ 200) := ⟨h1, h2⟩
  have HX := Lib.hid hx
  have HS := Lib.hid hsb
  have t1 : ((wd : Int) == 0) = false := by simp; omega
  have t1' : (wd == 0) = false := by simp; omega
  have t2 : decide ((wd : Int) < 0) = false := by simp <;> omega
  have t3 : decide ((9223372036854775807 : Int) < (wd : Int)) = false := decide_eq_false (by omega)
  have t3' : decide (9223372036854775807 < wd) = false := decide_eq_false (by omega)
  have t4 : decide ((8192 : Int) < (wd : Int)) = false := decide_eq_false (by omega)
  have t4' : decide (8192 < wd) = false := decide_eq_false (by omega)
  have x1 : IntKind.u64.wrap (wd : Int) = (wd : Int) := by rw [IntKind.wrap_u64]; omega
  have x2 : IntKind.i64.wrap (wd : Int) = (wd : Int) := by rw [IntKind.wrap_i64]; omega
  -- the buffer
  obtain ⟨cs, hrunM, hle, _⟩ := Lib.run_makeNoZero (P := Tryz.prog) w #[3] 81 5 Tryz.underlying81 wd (by omega)
  have hcall : (callFunc 64 #[.int .i64 (wd : Int)]).run Tryz.prog w = .ok (.value (.slice (some ⟨w.heap.size, 0, none⟩) wd cs.size)) ((w.alloc (.cells cs 5)).drewN 2) := by
    rw [run_callFunc_extern Tryz.func64 (by kernel_rfl) (by kernel_rfl) (by kernel_rfl) (e := Extern.BytealgMakeNoZero.makeNoZero #[3] #[81]) (by kernel_rfl), hrunM]
    rfl
  clear hrunM
  have i0 : (0 : Int) ≤ (wd : Int) := by omega
  have i1 : (wd : Int) ≤ (cs.size : Int) := by omega
  have B0 := Lib.Buf.start w cs 5 wd 2 hle
  obtain ⟨w1, hr1, B1⟩ := Lib.copy_part (P := Tryz.prog) w _ w.heap.size wd [] [x] (.slice (some ⟨sb, 0, none⟩) 1 cp) 81 3 5 Tryz.underlying81 infoU8s (Nat.le_refl _) B0
    ⟨some ⟨sb, 0, none⟩, cp, rfl, fun h => absurd h (by simp), fun a ha i y hy => by
      injection ha with ha
      subst ha
      obtain ⟨hi, rfl⟩ := List.getElem?_eq_some_iff.1 hy
      have hi0 : i = 0 := by simpa using hi
      subst hi0
      simpa [Addr.add] using hx⟩ (by simp; omega)
  rw [List.length_nil, Lib.tailV_zero] at hr1
  rw [List.nil_append] at B1
  have HB1 : Hid (Lib.Buf w w1 w.heap.size wd [x]) := B1
  clear B1 B0 hx hsb h1 h2
  go_enter Tryz.func36, Tryz.ntmps36
  go_wp2_with (first
    | (go_at_call 63
       with_reducible refine (SM.out _).mono ?_
       rintro e w2 ⟨rfl, rfl⟩)
    | (at_builtin; refine Lib.wpList_copy_run _ rfl _ _ 81 81 rfl _ _ rfl rfl hr1 ?_))
  go_loopw [10] (fun u wr => ∃ bp : Nat, Hid (1 ≤ bp ∧ bp ≤ wd) ∧ u = .int .i64 bp ∧ Hid (Lib.Buf w wr w.heap.size wd (List.replicate bp x))) (fun u _ => wd - (RowKit.intOf u).toNat)
  case atStart => exact ⟨1, ⟨Nat.le_refl _, HW.out.1⟩, rfl, HB1.out⟩
  case round =>
    obtain ⟨bp, Hi, rfl, HB⟩ := hrel
    by_cases hlt : bp < wd
    · have T0 : decide ((bp : Int) < (wd : Int)) = true := decide_eq_true (by omega)
      have T0' : decide (bp < wd) = true := decide_eq_true hlt
      have hm : min (bp : Int) (wd : Int) = (bp : Int) := by omega
      have b1 := Hi.out
      obtain ⟨c, hc⟩ : ∃ z, z = min (wd - bp) bp := ⟨_, rfl⟩
      have hsl1 : ∀ W, (Instr.slice 81 (.slice (some ⟨w.heap.size, 0, none⟩) wd wd) (some (.int .i64 (bp : Int))) none none).run Tryz.prog W = .ok (Lib.tailV w.heap.size wd bp) W := fun W => Lib.run_slice_tailV W 81 5 Tryz.underlying81 sizeU8 _ wd bp (by omega)
      obtain ⟨w2, hr2, B2⟩ := copy_self (P := Tryz.prog) (t := 81) (ty := 3) x Tryz.underlying81 infoU8s (Buf_drew HB.out) (by omega : 1 ≤ c) (by omega) bp wd hc (Nat.le_refl _)
      have HB2 := Lib.hid B2
      obtain ⟨bq, hbq⟩ : ∃ z, z = bp + c := ⟨_, rfl⟩
      have x3 : IntKind.i64.wrap ((bp : Int) + (c : Int)) = (bq : Int) := by have := HW.out; rw [IntKind.wrap_i64]; omega
      have HI' : Hid (1 ≤ bq ∧ bq ≤ wd) := by show _ ∧ _; omega
      have HMS : Hid (wd - (RowKit.intOf (Value.int .i64 (bq : Int))).toNat < wd - (RowKit.intOf (Value.int .i64 (bp : Int))).toNat) := by show _ < _; simp [RowKit.intOf]; omega
      have k0 : (0 : Int) ≤ (bp : Int) := by omega
      have k1 : (bp : Int) ≤ (wd : Int) := by omega
      have k2 : bp ≤ wd := by omega
      rw [← hbq] at HB2
      clear B2 hc hbq b1
      go_upto_region 20 with fail
      go_region_held3 (fun W => True) (exact trivial) (first
        | (refine step_copy_run _ (by rfl) _ _ 81 81 (by rfl) _ _ (by rfl) (by rfl) hr2 ?_))
      go_wp2_with fail
      go_roundw
      case rel => exact ⟨bq, HI', rfl, HB2⟩
      case measure => exact HMS.out
    · have T0 : decide ((bp : Int) < (wd : Int)) = false := decide_eq_false (by omega)
      have T0' : decide (bp < wd) = false := decide_eq_false hlt
      have e : bp = wd := by have := Hi.out; omega
      subst e
      clear hlt
      go_wp2_with fail
      go_ret
      exact ⟨w.heap.size, rfl, Nat.le_refl _, by have := (HB.out.there 0 (by have := Hi.out; omega)); exact World.block_lt_of_cell? wr _ (Option.isSome_iff_exists.1 this).choose_spec, buf_row HB.out, HB.out.below⟩
/-- The row of a level. -/
theorem tprow (g1 g2 g3 : Nat) (top bot h z : Int) (hh : 2 ≤ h ∧ h ≤ 100) (ht : -4194304 ≤ bot ∧ bot ≤ top ∧ top ≤ 4194304) (w : World) (c1 : w.cell? ⟨g1, 0, none⟩ = some (.int .i64 top)) (c2 : w.cell? ⟨g2, 0, none⟩ = some (.int .i64 bot)) (c3 : w.cell? ⟨g3, 0, none⟩ = some (.int .i64 h)) :
    Calls Tryz.prog 35 #[.int .i64 z, .pointer (some ⟨g1, 0, none⟩), .pointer (some ⟨g2, 0, none⟩), .pointer (some ⟨g3, 0, none⟩)] w fun e w' => e = .returned (.int .i64 (rowZ top bot h z)) ∧ w = w' := by
  unfold rowZ
  by_cases h1 : top < z
  · rw [if_pos (by omega)]
    have t1 : decide (top < z) = true := decide_eq_true h1
    clear h1 hh ht
    go_enter Tryz.func35, Tryz.ntmps35
    go_wp2_with fail
    go_ret
    exact ⟨rfl, rfl⟩
  have t1 : decide (top < z) = false := decide_eq_false h1
  by_cases h2 : z < bot
  · rw [if_neg (by omega), if_pos h2]
    have t2 : decide (z < bot) = true := decide_eq_true h2
    have x1 : IntKind.i64.wrap (h - 1) = h - 1 := by rw [IntKind.wrap_i64]; omega
    clear h1 h2 hh ht
    go_enter Tryz.func35, Tryz.ntmps35
    go_wp2_with fail
    go_ret
    exact ⟨rfl, rfl⟩
  have t2 : decide (z < bot) = false := decide_eq_false h2
  by_cases h3 : top = bot
  · rw [if_pos (by omega)]
    have t3 : (top == bot) = true := by simp [h3]
    clear h1 h2 hh ht h3
    go_enter Tryz.func35, Tryz.ntmps35
    go_wp2_with fail
    go_ret
    exact ⟨rfl, rfl⟩
  have t3 : (top == bot) = false := by simp [h3]
  have e : (if top ≤ z then 0 else if z < bot then h - 1 else (top - z) * (h - 1) / (top - bot)) = (top - z) * (h - 1) / (top - bot) := by
    by_cases h4 : top ≤ z
    · have : z = top := by omega
      subst this
      rw [if_pos h4, Int.sub_self, Int.zero_mul, Int.zero_ediv]
    · rw [if_neg h4, if_neg h2]
  rw [e]
  obtain ⟨a, ha⟩ : ∃ a, a = top - z := ⟨_, rfl⟩
  obtain ⟨b, hb⟩ : ∃ a, a = top - bot := ⟨_, rfl⟩
  obtain ⟨c, hc⟩ : ∃ a, a = h - 1 := ⟨_, rfl⟩
  have ha2 : 0 ≤ a ∧ a ≤ 8388608 := by omega
  have hb2 : 1 ≤ b ∧ b ≤ 8388608 := by omega
  have hc2 : 1 ≤ c ∧ c ≤ 99 := by omega
  have hac : 0 ≤ a * c ∧ a * c ≤ 8388608 * 99 := ⟨Int.mul_nonneg ha2.1 (by omega), by
    have := Int.mul_le_mul ha2.2 hc2.2 (by omega) (by omega)
    exact this⟩
  have x1 : IntKind.i64.wrap (top - z) = a := by rw [IntKind.wrap_i64]; omega
  have x2 : IntKind.i64.wrap (h - 1) = c := by rw [IntKind.wrap_i64]; omega
  have x3 : IntKind.i64.wrap (a * c) = a * c := by
    generalize a * c = m at hac
    rw [IntKind.wrap_i64]; omega
  have x4 : IntKind.i64.wrap (top - bot) = b := by rw [IntKind.wrap_i64]; omega
  have x5 : (b == 0) = false := by simp; omega
  have x6 : IntKind.i64.wrap ((a * c).tdiv b) = a * c / b := by
    rw [Int.tdiv_eq_ediv_of_nonneg hac.1]
    have h5 : 0 ≤ a * c / b := Int.ediv_nonneg hac.1 (by omega)
    have h6 : a * c / b ≤ a * c := Int.ediv_le_self _ hac.1
    generalize a * c / b = q at h5 h6
    generalize a * c = m at hac h6
    rw [IntKind.wrap_i64]; omega
  rw [← ha, ← hb, ← hc]
  have bne : b ≠ 0 := by omega
  clear h1 h2 h3 hh ht ha hb hc ha2 hb2 hc2 hac e
  go_enter Tryz.func35, Tryz.ntmps35
  go_wp2_with fail
  go_ret
  exact ⟨rfl, rfl⟩
end Go.Proofs.YtdgfljkhnifemaaGreatDoor

/- Merged texts of these proofs: Idx, Least, Most, Ends, RefM, RefN, Invs. -/
import Derived.Test.YtapfmbnppeonkaaGreatDoorMgE
import Derived.Test.YtapfmbnppeonkaaGreatDoorMgA
import Derived.RegionTactic
import Derived.Deep.RegionWith
import Derived.StillTailTactics
namespace Go.Proofs.YtapfmbnppeonkaaGreatDoor
open Go.RowKit
set_option linter.unusedVariables false
set_option linter.unusedSimpArgs false

theorem lpred (a b y : Int) (g : Nat) (f : Bool) (hf : f = decide (y ≤ b)) (w : World) (hc : w.cell? ⟨g, 0, none⟩ = some (.int .i64 y)) (hg : g < w.heap.size) :
    Calls Tryz.prog 34 #[.agg #[.int .i64 a, .int .i64 b], .pointer (some ⟨g, 0, none⟩)] w fun e w' => e = .returned (.bool f) ∧ Below w.heap.size w w' := by
  cases f with
  | true =>
    have T := hf.symm
    clear hf
    go_enter Tryz.func34, Tryz.ntmps34
    go_wp2_with fail
    go_ret
    refine ⟨rfl, ?_⟩
    (repeat' (first | assumption | exact Below.refl _ _ | exact Below.size (by assumption) | (refine Below.setCell ?_ ?_ _) | (refine Below.alloc ?_ ?_ _) | (refine Below.drew ?_) | (refine below_drewN ?_ _) | (refine Below.trans ?_ (Below.mono ‹Below _ _ _› ?_)) | omega | (simp; done) | (simp; omega) | (simp at *; omega)))
  | false =>
    have T := hf.symm
    clear hf
    go_enter Tryz.func34, Tryz.ntmps34
    go_wp2_with fail
    go_ret
    refine ⟨rfl, ?_⟩
    (repeat' (first | assumption | exact Below.refl _ _ | exact Below.size (by assumption) | (refine Below.setCell ?_ ?_ _) | (refine Below.alloc ?_ ?_ _) | (refine Below.drew ?_) | (refine below_drewN ?_ _) | (refine Below.trans ?_ (Below.mono ‹Below _ _ _› ?_)) | omega | (simp; done) | (simp; omega) | (simp at *; omega)))
theorem mpred (a b y : Int) (g : Nat) (f : Bool) (hf : f = decide (y < b)) (w : World) (hc : w.cell? ⟨g, 0, none⟩ = some (.int .i64 y)) (hg : g < w.heap.size) :
    Calls Tryz.prog 36 #[.agg #[.int .i64 a, .int .i64 b], .pointer (some ⟨g, 0, none⟩)] w fun e w' => e = .returned (.bool f) ∧ Below w.heap.size w w' := by
  cases f with
  | true =>
    have T := hf.symm
    clear hf
    go_enter Tryz.func36, Tryz.ntmps36
    go_wp2_with fail
    go_ret
    refine ⟨rfl, ?_⟩
    (repeat' (first | assumption | exact Below.refl _ _ | exact Below.size (by assumption) | (refine Below.setCell ?_ ?_ _) | (refine Below.alloc ?_ ?_ _) | (refine Below.drew ?_) | (refine below_drewN ?_ _) | (refine Below.trans ?_ (Below.mono ‹Below _ _ _› ?_)) | omega | (simp; done) | (simp; omega) | (simp at *; omega)))
  | false =>
    have T := hf.symm
    clear hf
    go_enter Tryz.func36, Tryz.ntmps36
    go_wp2_with fail
    go_ret
    refine ⟨rfl, ?_⟩
    (repeat' (first | assumption | exact Below.refl _ _ | exact Below.size (by assumption) | (refine Below.setCell ?_ ?_ _) | (refine Below.alloc ?_ ?_ _) | (refine Below.drew ?_) | (refine below_drewN ?_ _) | (refine Below.trans ?_ (Below.mono ‹Below _ _ _› ?_)) | omega | (simp; done) | (simp; omega) | (simp at *; omega)))

set_option maxHeartbeats 2000000 in
/-- slices.IndexFunc, of the predicate of Least. -/
theorem findex_least (b off n c k g : Nat) (X Y : Nat → Int) (y : Int) (w : World) (h2 : n ≤ 200) (ht : TabAt w b off n X Y) (hy : w.cell? ⟨g, 0, none⟩ = some (.int .i64 y)) (hg : g < w.heap.size) (hk : FirstAt (fun j => decide (y ≤ Y j)) n k) (v : Int) (hv : v = if k < n then (k : Int) else -1) :
    Calls Tryz.prog 33 #[.slice (some ⟨b, off, none⟩) n c, .func (.func 34) #[] #[.pointer (some ⟨g, 0, none⟩)]] w fun e w' => e = .returned (.int .i64 v) ∧ Below w.heap.size w w' := by
  have HT := Lib.hid ht
  have HK := Lib.hid hk
  have H2 := Lib.hid h2
  have HY := Lib.hid hy
  have HV := Lib.hid hv
  have hb := ht.1
  clear ht hk h2 hy hv
  go_enter Tryz.func33, Tryz.ntmps33
  go_wp2_with fail
  go_loopw [8] (fun u wr => ∃ i : Nat, Hid (i ≤ n ∧ i ≤ k) ∧ u = .int .i64 i ∧ Hid (Below w.heap.size w wr)) (fun u _ => n - (intOf u).toNat)
  case atStart => exact ⟨0, ⟨Nat.zero_le _, Nat.zero_le _⟩, rfl, Below.refl _ _⟩
  case round =>
    obtain ⟨i, Hi, rfl, HW⟩ := hrel
    by_cases hlt : i < n
    · have T0 : decide ((i : Int) < (n : Int)) = true := by simp <;> omega
      have T0' : decide (i < n) = true := decide_eq_true hlt
      obtain ⟨i', hi'⟩ : ∃ z, z = i + 1 := ⟨_, rfl⟩
      have x0 : IntKind.i64.wrap ((i : Int) + 1) = (i' : Int) := by have := H2.out; rw [IntKind.wrap_i64]; omega
      have HTr := Lib.hid (HT.out.below HW.out hb)
      have hX := (HTr.out.2 i hlt).1
      have hY := (HTr.out.2 i hlt).2
      have hyr : wr.cell? ⟨g, 0, none⟩ = some (.int .i64 y) := (HW.out.cell (p := ⟨g, 0, none⟩) hg).trans HY.out
      have hgr : g < wr.heap.size := Nat.lt_of_lt_of_le hg HW.out.size
      have HMS : Hid (n - (intOf (Value.int .i64 (i' : Int))).toNat < n - (intOf (Value.int .i64 (i : Int))).toNat) := by show _ < _; simp [intOf]; omega
      rcases first_at HK.out hlt Hi.out.2 with ⟨hp, hik⟩ | ⟨hp, hik⟩
      · have KK := Lib.hid (lpred (X i) (Y i) y g true hp.symm wr hyr hgr)
        have HR : Hid ((i : Int) = v) := by show (i : Int) = v; rw [HV.out, hik, if_pos (by omega)]
        clear hi' hp hik hyr hgr
        go_wp2_with (first | (go_at_call 34; (with_reducible refine (KK.out).mono ?_); rintro e w1 ⟨rfl, hb1⟩; obtain ⟨hc1, hf1⟩ := bcell hb1; have hz1 := hb1.size; (try simp at hz1); (try simp only [heap_drew, World.heap_drewN] at hz1); (try simp only [heap_drew, World.heap_drewN] at hc1); (try simp only [heap_drew, World.heap_drewN] at hf1); (try have hs1 := Nat.lt_of_succ_le hz1); (try have hs2 := Nat.lt_of_succ_lt hs1); (try have y0 : w.heap.size < w1.heap.size := by omega); (try have y1 : w.heap.size + 1 < w1.heap.size := by omega); (try have y2 : w.heap.size + 2 < w1.heap.size := by omega)))
        go_ret
        refine ⟨ret_int HR.out, ?_⟩
        have := HW.out
        (repeat' (first | assumption | exact Below.refl _ _ | exact Below.size (by assumption) | (refine Below.setCell ?_ ?_ _) | (refine Below.alloc ?_ ?_ _) | (refine Below.drew ?_) | (refine below_drewN ?_ _) | (refine Below.trans ?_ (Below.mono ‹Below _ _ _› ?_)) | omega | (simp; done) | (simp; omega) | (simp at *; omega)))
      · have KK := Lib.hid (lpred (X i) (Y i) y g false hp.symm wr hyr hgr)
        have HI' : Hid (i' ≤ n ∧ i' ≤ k) := by show _ ∧ _; omega
        clear hi' hp hik hyr hgr
        go_wp2_with (first | (go_at_call 34; (with_reducible refine (KK.out).mono ?_); rintro e w1 ⟨rfl, hb1⟩; obtain ⟨hc1, hf1⟩ := bcell hb1; have hz1 := hb1.size; (try simp at hz1); (try simp only [heap_drew, World.heap_drewN] at hz1); (try simp only [heap_drew, World.heap_drewN] at hc1); (try simp only [heap_drew, World.heap_drewN] at hf1); (try have hs1 := Nat.lt_of_succ_le hz1); (try have hs2 := Nat.lt_of_succ_lt hs1); (try have y0 : w.heap.size < w1.heap.size := by omega); (try have y1 : w.heap.size + 1 < w1.heap.size := by omega); (try have y2 : w.heap.size + 2 < w1.heap.size := by omega)))
        go_roundw
        case rel => exact ⟨i', HI', rfl, HW.out.trans (hb1.mono HW.out.size)⟩
        case measure => exact HMS.out
    · have e : i = n := by have := Hi.out; omega
      have HR : Hid ((-1 : Int) = v) := by show (-1 : Int) = v; rw [HV.out, if_neg (by have := Hi.out; omega)]
      have T0' : decide (i < n) = false := decide_eq_false hlt
      clear e hlt
      go_wp2_with fail
      go_ret
      exact ⟨ret_int HR.out, HW.out⟩
set_option maxHeartbeats 2000000 in
/-- slices.IndexFunc, of the predicate of Most. -/
theorem findex_most (b off n c k g : Nat) (X Y : Nat → Int) (y : Int) (w : World) (h2 : n ≤ 200) (ht : TabAt w b off n X Y) (hy : w.cell? ⟨g, 0, none⟩ = some (.int .i64 y)) (hg : g < w.heap.size) (hk : FirstAt (fun j => decide (y < Y j)) n k) (v : Int) (hv : v = if k < n then (k : Int) else -1) :
    Calls Tryz.prog 33 #[.slice (some ⟨b, off, none⟩) n c, .func (.func 36) #[] #[.pointer (some ⟨g, 0, none⟩)]] w fun e w' => e = .returned (.int .i64 v) ∧ Below w.heap.size w w' := by
  have HT := Lib.hid ht
  have HK := Lib.hid hk
  have H2 := Lib.hid h2
  have HY := Lib.hid hy
  have HV := Lib.hid hv
  have hb := ht.1
  clear ht hk h2 hy hv
  go_enter Tryz.func33, Tryz.ntmps33
  go_wp2_with fail
  go_loopw [8] (fun u wr => ∃ i : Nat, Hid (i ≤ n ∧ i ≤ k) ∧ u = .int .i64 i ∧ Hid (Below w.heap.size w wr)) (fun u _ => n - (intOf u).toNat)
  case atStart => exact ⟨0, ⟨Nat.zero_le _, Nat.zero_le _⟩, rfl, Below.refl _ _⟩
  case round =>
    obtain ⟨i, Hi, rfl, HW⟩ := hrel
    by_cases hlt : i < n
    · have T0 : decide ((i : Int) < (n : Int)) = true := by simp <;> omega
      have T0' : decide (i < n) = true := decide_eq_true hlt
      obtain ⟨i', hi'⟩ : ∃ z, z = i + 1 := ⟨_, rfl⟩
      have x0 : IntKind.i64.wrap ((i : Int) + 1) = (i' : Int) := by have := H2.out; rw [IntKind.wrap_i64]; omega
      have HTr := Lib.hid (HT.out.below HW.out hb)
      have hX := (HTr.out.2 i hlt).1
      have hY := (HTr.out.2 i hlt).2
      have hyr : wr.cell? ⟨g, 0, none⟩ = some (.int .i64 y) := (HW.out.cell (p := ⟨g, 0, none⟩) hg).trans HY.out
      have hgr : g < wr.heap.size := Nat.lt_of_lt_of_le hg HW.out.size
      have HMS : Hid (n - (intOf (Value.int .i64 (i' : Int))).toNat < n - (intOf (Value.int .i64 (i : Int))).toNat) := by show _ < _; simp [intOf]; omega
      rcases first_at HK.out hlt Hi.out.2 with ⟨hp, hik⟩ | ⟨hp, hik⟩
      · have KK := Lib.hid (mpred (X i) (Y i) y g true hp.symm wr hyr hgr)
        have HR : Hid ((i : Int) = v) := by show (i : Int) = v; rw [HV.out, hik, if_pos (by omega)]
        clear hi' hp hik hyr hgr
        go_wp2_with (first | (go_at_call 36; (with_reducible refine (KK.out).mono ?_); rintro e w1 ⟨rfl, hb1⟩; obtain ⟨hc1, hf1⟩ := bcell hb1; have hz1 := hb1.size; (try simp at hz1); (try simp only [heap_drew, World.heap_drewN] at hz1); (try simp only [heap_drew, World.heap_drewN] at hc1); (try simp only [heap_drew, World.heap_drewN] at hf1); (try have hs1 := Nat.lt_of_succ_le hz1); (try have hs2 := Nat.lt_of_succ_lt hs1); (try have y0 : w.heap.size < w1.heap.size := by omega); (try have y1 : w.heap.size + 1 < w1.heap.size := by omega); (try have y2 : w.heap.size + 2 < w1.heap.size := by omega)))
        go_ret
        refine ⟨ret_int HR.out, ?_⟩
        have := HW.out
        (repeat' (first | assumption | exact Below.refl _ _ | exact Below.size (by assumption) | (refine Below.setCell ?_ ?_ _) | (refine Below.alloc ?_ ?_ _) | (refine Below.drew ?_) | (refine below_drewN ?_ _) | (refine Below.trans ?_ (Below.mono ‹Below _ _ _› ?_)) | omega | (simp; done) | (simp; omega) | (simp at *; omega)))
      · have KK := Lib.hid (mpred (X i) (Y i) y g false hp.symm wr hyr hgr)
        have HI' : Hid (i' ≤ n ∧ i' ≤ k) := by show _ ∧ _; omega
        clear hi' hp hik hyr hgr
        go_wp2_with (first | (go_at_call 36; (with_reducible refine (KK.out).mono ?_); rintro e w1 ⟨rfl, hb1⟩; obtain ⟨hc1, hf1⟩ := bcell hb1; have hz1 := hb1.size; (try simp at hz1); (try simp only [heap_drew, World.heap_drewN] at hz1); (try simp only [heap_drew, World.heap_drewN] at hc1); (try simp only [heap_drew, World.heap_drewN] at hf1); (try have hs1 := Nat.lt_of_succ_le hz1); (try have hs2 := Nat.lt_of_succ_lt hs1); (try have y0 : w.heap.size < w1.heap.size := by omega); (try have y1 : w.heap.size + 1 < w1.heap.size := by omega); (try have y2 : w.heap.size + 2 < w1.heap.size := by omega)))
        go_roundw
        case rel => exact ⟨i', HI', rfl, HW.out.trans (hb1.mono HW.out.size)⟩
        case measure => exact HMS.out
    · have e : i = n := by have := Hi.out; omega
      have HR : Hid ((-1 : Int) = v) := by show (-1 : Int) = v; rw [HV.out, if_neg (by have := Hi.out; omega)]
      have T0' : decide (i < n) = false := decide_eq_false hlt
      clear e hlt
      go_wp2_with fail
      go_ret
      exact ⟨ret_int HR.out, HW.out⟩
end Go.Proofs.YtapfmbnppeonkaaGreatDoor

namespace Go.Proofs.YtapfmbnppeonkaaGreatDoor
open Go.RowKit
set_option linter.unusedVariables false
set_option linter.unusedSimpArgs false

theorem cell_two {w : World} {o o' : Obj} {p : Addr} {v : Value} (h : w.cell? p = some v) (hp : p.block < w.heap.size) : ((w.alloc o).alloc o').drew.cell? p = some v := by
  have hb : Below w.heap.size w ((w.alloc o).alloc o') := ((Below.refl _ _).alloc (Nat.le_refl _) o).alloc (by simp) o'
  exact (hb.cell hp).trans h
theorem inv_bounds {T D U : Nat} (bT : T ≤ U) (bU : U ≤ 2251799813685248) (bD : D ≤ 2251799813685248) (hU : 0 < U) :
    T * D / 18446744073709551616 < U ∧ T * D / U ≤ D ∧ (T * D + U - 1) / U ≤ D := by
  have h1 : T * D ≤ U * D := Nat.mul_le_mul_right D bT
  have h2 : T * D ≤ U * 2251799813685248 := Nat.le_trans h1 (Nat.mul_le_mul_left U bD)
  refine ⟨?_, ?_, ?_⟩
  · rw [Nat.div_lt_iff_lt_mul (by omega)]; omega
  · exact Nat.div_le_of_le_mul h1
  · rw [← Nat.lt_succ_iff, Nat.div_lt_iff_lt_mul hU, Nat.succ_mul, Nat.mul_comm D U]; omega

set_option maxRecDepth 100000 in
set_option maxHeartbeats 2000000 in
theorem tleast_mid (b off n c p T D U : Nat) (X Y : Nat → Int) (y : Int) (w : World) (hv : TabOK n X Y) (ht : TabAt w b off n X Y) (hp : p + 1 < n) (hs : FirstAt (fun j => decide (y ≤ Y j)) n (p + 1))
    (eT : y - Y p = (T : Int)) (eD : X (p + 1) - X p = (D : Int)) (eU : Y (p + 1) - Y p = (U : Int)) (bT : T ≤ U) (hU : 0 < U) (v : Int) (hvv : v = X p + (((T * D + U - 1) / U : Nat) : Int)) :
    Calls Tryz.prog 15 #[.slice (some ⟨b, off, none⟩) n c, .int .i64 y] w fun e w' => e = .returned (.tuple #[.int .i64 v, .int .i64 0]) ∧ Below w.heap.size w w' := by
  have bp := in_of hv (by omega : p < n)
  have bp1 := in_of hv hp
  have hv2 := hv.2.1
  have S0 := Lib.hid fun w ht => tvalid b off n c X Y w hv.1 hv.2.1 ht
  have tv := tabB_true hv
  obtain ⟨k, hk⟩ : ∃ k, k = p + 1 := ⟨_, rfl⟩
  rw [← hk] at hs hp eD eU bp1
  obtain ⟨q1, q2, q3⟩ := inv_bounds (T := T) (D := D) (U := U) bT (by omega) (by omega) hU
  obtain ⟨lo, hlo⟩ : ∃ z, z = T * D / U := ⟨_, rfl⟩
  obtain ⟨hi, hhi⟩ : ∃ z, z = (T * D + U - 1) / U := ⟨_, rfl⟩
  rw [← hlo] at q2
  rw [← hhi] at q3 hvv
  have S1 := Lib.hid fun (w' : World) ht hy hg => findex_least b off n c k w.heap.size X Y y w' (by omega) ht hy hg hs (k : Int) (by rw [if_pos hp])
  have S2 := Lib.hid fun w => wscale T D U lo hi (by omega) (by omega) (by omega) q1 hlo hhi (by omega) (by omega) w
  have HT := Lib.hid ht
  have hb := ht.1
  have hpn : p < n := by omega
  have hx1 := (HT.out.2 p hpn).1
  have hy1 := (HT.out.2 p hpn).2
  have hx2 := (HT.out.2 k hp).1
  have hy2 := (HT.out.2 k hp).2
  have e1 : IntKind.i64.wrap ((k : Int) - 1) = (p : Int) := by rw [IntKind.wrap_i64]; omega
  have e2 : IntKind.i64.wrap (y - Y p) = (T : Int) := by rw [eT]; exact wrap_id (by omega) (by omega)
  have e3 : IntKind.i64.wrap (X k - X p) = (D : Int) := by rw [eD]; exact wrap_id (by omega) (by omega)
  have e4 : IntKind.i64.wrap (Y k - Y p) = (U : Int) := by rw [eU]; exact wrap_id (by omega) (by omega)
  have e5 : IntKind.i64.wrap (X p + (hi : Int)) = v := by rw [hvv]; exact wrap_id (by omega) (by omega)
  have t1 : ((k : Int) == -1) = false := by simp <;> omega
  have t2 : ((k : Int) == 0) = false := by simp <;> omega
  have t3 : ¬ k = 0 := by omega
  have k0 : (0 : Int) ≤ (p : Int) := by omega
  have k1 : (p : Int) < (n : Int) := by omega
  have k2 : (0 : Int) ≤ (k : Int) := by omega
  have k3 : (k : Int) < (n : Int) := by omega
  clear hs hv ht bp bp1 hv2 q1 q2 q3 hlo hhi hvv eT eD eU bT hU hk
  go_enter Tryz.func15, Tryz.ntmps15
  go_wp2_with (first | (go_at_call 23; (with_reducible refine (S0.out _ ?_).mono ?_); (focus (exact HT.out.below (by (repeat' (first | assumption | exact Below.refl _ _ | exact Below.size (by assumption) | (refine Below.setCell ?_ ?_ _) | (refine Below.alloc ?_ ?_ _) | (refine Below.drew ?_) | (refine below_drewN ?_ _) | (refine Below.trans ?_ (Below.mono ‹Below _ _ _› ?_)) | omega | (simp; done) | (simp; omega) | (simp at *; omega)))) hb)); rintro e w1 ⟨rfl, hb1⟩; obtain ⟨hc1, hf1⟩ := bcell hb1; have hz1 := hb1.size; (try simp at hz1); (try simp only [heap_drew, World.heap_drewN] at hz1); (try simp only [heap_drew, World.heap_drewN] at hc1); (try simp only [heap_drew, World.heap_drewN] at hf1); (try have hs1 := Nat.lt_of_succ_le hz1); (try have hs2 := Nat.lt_of_succ_lt hs1); (try have y0 : w.heap.size < w1.heap.size := by omega); (try have y1 : w.heap.size + 1 < w1.heap.size := by omega); (try have y2 : w.heap.size + 2 < w1.heap.size := by omega)) | (go_at_call 33; (with_reducible refine (S1.out _ ?_ ?_ ?_).mono ?_); (focus (exact HT.out.below (by (repeat' (first | assumption | exact Below.refl _ _ | exact Below.size (by assumption) | (refine Below.setCell ?_ ?_ _) | (refine Below.alloc ?_ ?_ _) | (refine Below.drew ?_) | (refine below_drewN ?_ _) | (refine Below.trans ?_ (Below.mono ‹Below _ _ _› ?_)) | omega | (simp; done) | (simp; omega) | (simp at *; omega)))) hb)); (focus (first | (simp [go_sem, *]; done) | (simp [*]; done))); (focus (first | assumption | omega)); rintro e w2 ⟨rfl, hb2⟩; obtain ⟨hc2, hf2⟩ := bcell hb2; have hz2 := hb2.size; have yb2 : b < w2.heap.size := (by have := hb1.size; simp at this; omega); have yw2 : w.heap.size < w2.heap.size := (by have := hb1.size; simp at this; omega)))
  have hbW : Below w.heap.size w w2 := by (repeat' (first | assumption | exact Below.refl _ _ | exact Below.size (by assumption) | (refine Below.setCell ?_ ?_ _) | (refine Below.alloc ?_ ?_ _) | (refine Below.drew ?_) | (refine below_drewN ?_ _) | (refine Below.trans ?_ (Below.mono ‹Below _ _ _› ?_)) | omega | (simp; done) | (simp; omega) | (simp at *; omega)))
  have HT2 := HT.out.below hbW hb
  have ax1 := (HT2.2 p hpn).1
  have ay1 := (HT2.2 p hpn).2
  have ax2 := (HT2.2 k hp).1
  have ay2 := (HT2.2 k hp).2
  have HBW := Lib.hid hbW
  have ayc : w2.cell? ⟨w.heap.size, 0, none⟩ = some (.int .i64 y) := by first | (simp [go_sem, *]; done) | (simp [*]; done)
  clear hc1 hc2 hf1 hf2 HT2 hx1 hy1 hx2 hy2 hbW
  go_cut [7, 8] from 27 to 35 (fun s t wx => ∃ g h : Nat, s = .pointer (some ⟨g, 0, none⟩) ∧ t = .pointer (some ⟨h, 0, none⟩) ∧ g < wx.heap.size ∧ h < wx.heap.size ∧ w.heap.size < wx.heap.size ∧ wx.cell? ⟨w.heap.size, 0, none⟩ = some (.int .i64 y) ∧ wx.cell? ⟨g, 0, none⟩ = some (.int .i64 (X p)) ∧ wx.cell? ⟨g, 1, none⟩ = some (.int .i64 (Y p)) ∧ wx.cell? ⟨h, 0, none⟩ = some (.int .i64 (X k)) ∧ wx.cell? ⟨h, 1, none⟩ = some (.int .i64 (Y k)) ∧ Below w.heap.size w wx)
  case first =>
    go_region
    all_goals (go_wp2_with fail; go_meet)
    all_goals (have hbW := HBW.out; exact ⟨_, _, rfl, rfl, by simp [heap_drew] <;> omega, by simp [heap_drew] <;> omega, by simp [heap_drew] <;> omega, cell_two ayc yw2, by simp, by simp, by simp, by simp, by (repeat' (first | assumption | exact Below.refl _ _ | exact Below.size (by assumption) | (refine Below.setCell ?_ ?_ _) | (refine Below.alloc ?_ ?_ _) | (refine Below.drew ?_) | (refine below_drewN ?_ _) | (refine Below.trans ?_ (Below.mono ‹Below _ _ _› ?_)) | omega | (simp; done) | (simp; omega) | (simp at *; omega)))⟩)
  case rest =>
    obtain ⟨g, h, rfl, rfl, hg, hh, hw, hyc, g0, g1, h0, h1, hbx⟩ := hcut
    go_wp2_with (first | (go_at_call 35; (with_reducible refine (S2.out _).mono ?_); rintro e w3 ⟨rfl, hb3⟩; obtain ⟨hc3, hf3⟩ := bcell hb3; have hz3 := hb3.size; (try simp at hz3); (try simp only [heap_drew, World.heap_drewN] at hz3); (try simp only [heap_drew, World.heap_drewN] at hc3); (try simp only [heap_drew, World.heap_drewN] at hf3); (try have hs1 := Nat.lt_of_succ_le hz3); (try have hs2 := Nat.lt_of_succ_lt hs1); (try have y0 : w.heap.size < w3.heap.size := by omega); (try have y1 : w.heap.size + 1 < w3.heap.size := by omega); (try have y2 : w.heap.size + 2 < w3.heap.size := by omega); (try have yg : g < w3.heap.size := by omega); (try have yh : h < w3.heap.size := by omega)))
    go_ret2
    refine ⟨rfl, ?_⟩
    (repeat' (first | assumption | exact Below.refl _ _ | exact Below.size (by assumption) | (refine Below.setCell ?_ ?_ _) | (refine Below.alloc ?_ ?_ _) | (refine Below.drew ?_) | (refine below_drewN ?_ _) | (refine Below.trans ?_ (Below.mono ‹Below _ _ _› ?_)) | omega | (simp; done) | (simp; omega) | (simp at *; omega)))
end Go.Proofs.YtapfmbnppeonkaaGreatDoor

namespace Go.Proofs.YtapfmbnppeonkaaGreatDoor
open Go.RowKit
set_option linter.unusedVariables false
set_option linter.unusedSimpArgs false

set_option maxRecDepth 100000 in
set_option maxHeartbeats 2000000 in
theorem tmost_mid (b off n c p T D U : Nat) (X Y : Nat → Int) (y : Int) (w : World) (hv : TabOK n X Y) (ht : TabAt w b off n X Y) (hp : p + 1 < n) (hs : FirstAt (fun j => decide (y < Y j)) n (p + 1))
    (eT : y - Y p = (T : Int)) (eD : X (p + 1) - X p = (D : Int)) (eU : Y (p + 1) - Y p = (U : Int)) (bT : T ≤ U) (hU : 0 < U) (v : Int) (hvv : v = X p + ((T * D / U : Nat) : Int)) :
    Calls Tryz.prog 16 #[.slice (some ⟨b, off, none⟩) n c, .int .i64 y] w fun e w' => e = .returned (.tuple #[.int .i64 v, .int .i64 0]) ∧ Below w.heap.size w w' := by
  have bp := in_of hv (by omega : p < n)
  have bp1 := in_of hv hp
  have hv2 := hv.2.1
  have S0 := Lib.hid fun w ht => tvalid b off n c X Y w hv.1 hv.2.1 ht
  have tv := tabB_true hv
  obtain ⟨k, hk⟩ : ∃ k, k = p + 1 := ⟨_, rfl⟩
  rw [← hk] at hs hp eD eU bp1
  obtain ⟨q1, q2, q3⟩ := inv_bounds (T := T) (D := D) (U := U) bT (by omega) (by omega) hU
  obtain ⟨lo, hlo⟩ : ∃ z, z = T * D / U := ⟨_, rfl⟩
  obtain ⟨hi, hhi⟩ : ∃ z, z = (T * D + U - 1) / U := ⟨_, rfl⟩
  rw [← hlo] at q2 hvv
  rw [← hhi] at q3
  have S1 := Lib.hid fun (w' : World) ht hy hg => findex_most b off n c k w.heap.size X Y y w' (by omega) ht hy hg hs (k : Int) (by rw [if_pos hp])
  have S2 := Lib.hid fun w => wscale T D U lo hi (by omega) (by omega) (by omega) q1 hlo hhi (by omega) (by omega) w
  have HT := Lib.hid ht
  have hb := ht.1
  have hpn : p < n := by omega
  have hx1 := (HT.out.2 p hpn).1
  have hy1 := (HT.out.2 p hpn).2
  have hx2 := (HT.out.2 k hp).1
  have hy2 := (HT.out.2 k hp).2
  have e1 : IntKind.i64.wrap ((k : Int) - 1) = (p : Int) := by rw [IntKind.wrap_i64]; omega
  have e2 : IntKind.i64.wrap (y - Y p) = (T : Int) := by rw [eT]; exact wrap_id (by omega) (by omega)
  have e3 : IntKind.i64.wrap (X k - X p) = (D : Int) := by rw [eD]; exact wrap_id (by omega) (by omega)
  have e4 : IntKind.i64.wrap (Y k - Y p) = (U : Int) := by rw [eU]; exact wrap_id (by omega) (by omega)
  have e5 : IntKind.i64.wrap (X p + (lo : Int)) = v := by rw [hvv]; exact wrap_id (by omega) (by omega)
  have t1 : ((k : Int) == -1) = false := by simp <;> omega
  have t2 : ((k : Int) == 0) = false := by simp <;> omega
  have t3 : ¬ k = 0 := by omega
  have k0 : (0 : Int) ≤ (p : Int) := by omega
  have k1 : (p : Int) < (n : Int) := by omega
  have k2 : (0 : Int) ≤ (k : Int) := by omega
  have k3 : (k : Int) < (n : Int) := by omega
  clear hs hv ht bp bp1 hv2 q1 q2 q3 hlo hhi hvv eT eD eU bT hU hk
  go_enter Tryz.func16, Tryz.ntmps16
  go_wp2_with (first | (go_at_call 23; (with_reducible refine (S0.out _ ?_).mono ?_); (focus (exact HT.out.below (by (repeat' (first | assumption | exact Below.refl _ _ | exact Below.size (by assumption) | (refine Below.setCell ?_ ?_ _) | (refine Below.alloc ?_ ?_ _) | (refine Below.drew ?_) | (refine below_drewN ?_ _) | (refine Below.trans ?_ (Below.mono ‹Below _ _ _› ?_)) | omega | (simp; done) | (simp; omega) | (simp at *; omega)))) hb)); rintro e w1 ⟨rfl, hb1⟩; obtain ⟨hc1, hf1⟩ := bcell hb1; have hz1 := hb1.size; (try simp at hz1); (try simp only [heap_drew, World.heap_drewN] at hz1); (try simp only [heap_drew, World.heap_drewN] at hc1); (try simp only [heap_drew, World.heap_drewN] at hf1); (try have hs1 := Nat.lt_of_succ_le hz1); (try have hs2 := Nat.lt_of_succ_lt hs1); (try have y0 : w.heap.size < w1.heap.size := by omega); (try have y1 : w.heap.size + 1 < w1.heap.size := by omega); (try have y2 : w.heap.size + 2 < w1.heap.size := by omega)) | (go_at_call 33; (with_reducible refine (S1.out _ ?_ ?_ ?_).mono ?_); (focus (exact HT.out.below (by (repeat' (first | assumption | exact Below.refl _ _ | exact Below.size (by assumption) | (refine Below.setCell ?_ ?_ _) | (refine Below.alloc ?_ ?_ _) | (refine Below.drew ?_) | (refine below_drewN ?_ _) | (refine Below.trans ?_ (Below.mono ‹Below _ _ _› ?_)) | omega | (simp; done) | (simp; omega) | (simp at *; omega)))) hb)); (focus (first | (simp [go_sem, *]; done) | (simp [*]; done))); (focus (first | assumption | omega)); rintro e w2 ⟨rfl, hb2⟩; obtain ⟨hc2, hf2⟩ := bcell hb2; have hz2 := hb2.size; have yb2 : b < w2.heap.size := (by have := hb1.size; simp at this; omega); have yw2 : w.heap.size < w2.heap.size := (by have := hb1.size; simp at this; omega)))
  have hbW : Below w.heap.size w w2 := by (repeat' (first | assumption | exact Below.refl _ _ | exact Below.size (by assumption) | (refine Below.setCell ?_ ?_ _) | (refine Below.alloc ?_ ?_ _) | (refine Below.drew ?_) | (refine below_drewN ?_ _) | (refine Below.trans ?_ (Below.mono ‹Below _ _ _› ?_)) | omega | (simp; done) | (simp; omega) | (simp at *; omega)))
  have HT2 := HT.out.below hbW hb
  have ax1 := (HT2.2 p hpn).1
  have ay1 := (HT2.2 p hpn).2
  have ax2 := (HT2.2 k hp).1
  have ay2 := (HT2.2 k hp).2
  have HBW := Lib.hid hbW
  have ayc : w2.cell? ⟨w.heap.size, 0, none⟩ = some (.int .i64 y) := by first | (simp [go_sem, *]; done) | (simp [*]; done)
  clear hc1 hc2 hf1 hf2 HT2 hx1 hy1 hx2 hy2 hbW
  go_cut [7, 8] from 30 to 38 (fun s t wx => ∃ g h : Nat, s = .pointer (some ⟨g, 0, none⟩) ∧ t = .pointer (some ⟨h, 0, none⟩) ∧ g < wx.heap.size ∧ h < wx.heap.size ∧ w.heap.size < wx.heap.size ∧ wx.cell? ⟨w.heap.size, 0, none⟩ = some (.int .i64 y) ∧ wx.cell? ⟨g, 0, none⟩ = some (.int .i64 (X p)) ∧ wx.cell? ⟨g, 1, none⟩ = some (.int .i64 (Y p)) ∧ wx.cell? ⟨h, 0, none⟩ = some (.int .i64 (X k)) ∧ wx.cell? ⟨h, 1, none⟩ = some (.int .i64 (Y k)) ∧ Below w.heap.size w wx)
  case first =>
    go_region
    all_goals (go_wp2_with fail; go_meet)
    all_goals (have hbW := HBW.out; exact ⟨_, _, rfl, rfl, by simp [heap_drew] <;> omega, by simp [heap_drew] <;> omega, by simp [heap_drew] <;> omega, cell_two ayc yw2, by simp, by simp, by simp, by simp, by (repeat' (first | assumption | exact Below.refl _ _ | exact Below.size (by assumption) | (refine Below.setCell ?_ ?_ _) | (refine Below.alloc ?_ ?_ _) | (refine Below.drew ?_) | (refine below_drewN ?_ _) | (refine Below.trans ?_ (Below.mono ‹Below _ _ _› ?_)) | omega | (simp; done) | (simp; omega) | (simp at *; omega)))⟩)
  case rest =>
    obtain ⟨g, h, rfl, rfl, hg, hh, hw, hyc, g0, g1, h0, h1, hbx⟩ := hcut
    go_wp2_with (first | (go_at_call 35; (with_reducible refine (S2.out _).mono ?_); rintro e w3 ⟨rfl, hb3⟩; obtain ⟨hc3, hf3⟩ := bcell hb3; have hz3 := hb3.size; (try simp at hz3); (try simp only [heap_drew, World.heap_drewN] at hz3); (try simp only [heap_drew, World.heap_drewN] at hc3); (try simp only [heap_drew, World.heap_drewN] at hf3); (try have hs1 := Nat.lt_of_succ_le hz3); (try have hs2 := Nat.lt_of_succ_lt hs1); (try have y0 : w.heap.size < w3.heap.size := by omega); (try have y1 : w.heap.size + 1 < w3.heap.size := by omega); (try have y2 : w.heap.size + 2 < w3.heap.size := by omega); (try have yg : g < w3.heap.size := by omega); (try have yh : h < w3.heap.size := by omega)))
    go_ret2
    refine ⟨rfl, ?_⟩
    (repeat' (first | assumption | exact Below.refl _ _ | exact Below.size (by assumption) | (refine Below.setCell ?_ ?_ _) | (refine Below.alloc ?_ ?_ _) | (refine Below.drew ?_) | (refine below_drewN ?_ _) | (refine Below.trans ?_ (Below.mono ‹Below _ _ _› ?_)) | omega | (simp; done) | (simp; omega) | (simp at *; omega)))
end Go.Proofs.YtapfmbnppeonkaaGreatDoor

namespace Go.Proofs.YtapfmbnppeonkaaGreatDoor
open Go.RowKit
set_option linter.unusedVariables false
set_option linter.unusedSimpArgs false

set_option maxRecDepth 100000 in
set_option maxHeartbeats 2000000 in
theorem tleast_none (b off n c : Nat) (X Y : Nat → Int) (y : Int) (w : World) (hv : TabOK n X Y) (ht : TabAt w b off n X Y) (hs : FirstAt (fun j => decide (y ≤ Y j)) n n) :
    Calls Tryz.prog 15 #[.slice (some ⟨b, off, none⟩) n c, .int .i64 y] w fun e w' => e = .returned (.tuple #[.int .i64 0, .int .i64 12]) ∧ Below w.heap.size w w' := by
  have hv1 := hv.1
  have hv2 := hv.2.1
  have S0 := Lib.hid fun w ht => tvalid b off n c X Y w hv.1 hv.2.1 ht
  have tv := tabB_true hv
  have S1 := Lib.hid fun (w' : World) ht hy hg => findex_least b off n c n w.heap.size X Y y w' (by omega) ht hy hg hs (-1 : Int) (by first | rw [if_neg (by omega)] | (rw [if_pos (by omega)]; rfl))
  have HT := Lib.hid ht
  have hb := ht.1
  clear hs hv ht hv2
  go_enter Tryz.func15, Tryz.ntmps15
  go_wp2_with (first | (go_at_call 23; (with_reducible refine (S0.out _ ?_).mono ?_); (focus (exact HT.out.below (by (repeat' (first | assumption | exact Below.refl _ _ | exact Below.size (by assumption) | (refine Below.setCell ?_ ?_ _) | (refine Below.alloc ?_ ?_ _) | (refine Below.drew ?_) | (refine below_drewN ?_ _) | (refine Below.trans ?_ (Below.mono ‹Below _ _ _› ?_)) | omega | (simp; done) | (simp; omega) | (simp at *; omega)))) hb)); rintro e w1 ⟨rfl, hb1⟩; obtain ⟨hc1, hf1⟩ := bcell hb1; have hz1 := hb1.size; (try simp at hz1); (try simp only [heap_drew, World.heap_drewN] at hz1); (try simp only [heap_drew, World.heap_drewN] at hc1); (try simp only [heap_drew, World.heap_drewN] at hf1); (try have hs1 := Nat.lt_of_succ_le hz1); (try have hs2 := Nat.lt_of_succ_lt hs1); (try have y0 : w.heap.size < w1.heap.size := by omega); (try have y1 : w.heap.size + 1 < w1.heap.size := by omega); (try have y2 : w.heap.size + 2 < w1.heap.size := by omega)) | (go_at_call 33; (with_reducible refine (S1.out _ ?_ ?_ ?_).mono ?_); (focus (exact HT.out.below (by (repeat' (first | assumption | exact Below.refl _ _ | exact Below.size (by assumption) | (refine Below.setCell ?_ ?_ _) | (refine Below.alloc ?_ ?_ _) | (refine Below.drew ?_) | (refine below_drewN ?_ _) | (refine Below.trans ?_ (Below.mono ‹Below _ _ _› ?_)) | omega | (simp; done) | (simp; omega) | (simp at *; omega)))) hb)); (focus (first | (simp [go_sem, *]; done) | (simp [*]; done))); (focus (first | assumption | omega)); rintro e w2 ⟨rfl, hb2⟩; obtain ⟨hc2, hf2⟩ := bcell hb2; have hz2 := hb2.size; have yb2 : b < w2.heap.size := (by have := hb1.size; simp at this; omega); have yw2 : w.heap.size < w2.heap.size := (by have := hb1.size; simp at this; omega)))
  go_ret2
  refine ⟨rfl, ?_⟩
  (repeat' (first | assumption | exact Below.refl _ _ | exact Below.size (by assumption) | (refine Below.setCell ?_ ?_ _) | (refine Below.alloc ?_ ?_ _) | (refine Below.drew ?_) | (refine below_drewN ?_ _) | (refine Below.trans ?_ (Below.mono ‹Below _ _ _› ?_)) | omega | (simp; done) | (simp; omega) | (simp at *; omega)))
set_option maxRecDepth 100000 in
set_option maxHeartbeats 2000000 in
theorem tleast_first (b off n c : Nat) (X Y : Nat → Int) (y : Int) (w : World) (hv : TabOK n X Y) (ht : TabAt w b off n X Y) (hs : FirstAt (fun j => decide (y ≤ Y j)) n 0) :
    Calls Tryz.prog 15 #[.slice (some ⟨b, off, none⟩) n c, .int .i64 y] w fun e w' => e = .returned (.tuple #[.int .i64 (X 0), .int .i64 0]) ∧ Below w.heap.size w w' := by
  have hv1 := hv.1
  have hv2 := hv.2.1
  have S0 := Lib.hid fun w ht => tvalid b off n c X Y w hv.1 hv.2.1 ht
  have tv := tabB_true hv
  have S1 := Lib.hid fun (w' : World) ht hy hg => findex_least b off n c 0 w.heap.size X Y y w' (by omega) ht hy hg hs (0 : Int) (by first | rw [if_neg (by omega)] | (rw [if_pos (by omega)]; rfl))
  have HT := Lib.hid ht
  have hb := ht.1
  have k1 : (0 : Int) < (n : Int) := by omega
  clear hs hv ht hv2
  go_enter Tryz.func15, Tryz.ntmps15
  go_upto_region 5 with (first | (go_at_call 23; (with_reducible refine (S0.out _ ?_).mono ?_); (focus (exact HT.out.below (by (repeat' (first | assumption | exact Below.refl _ _ | exact Below.size (by assumption) | (refine Below.setCell ?_ ?_ _) | (refine Below.alloc ?_ ?_ _) | (refine Below.drew ?_) | (refine below_drewN ?_ _) | (refine Below.trans ?_ (Below.mono ‹Below _ _ _› ?_)) | omega | (simp; done) | (simp; omega) | (simp at *; omega)))) hb)); rintro e w1 ⟨rfl, hb1⟩; obtain ⟨hc1, hf1⟩ := bcell hb1; have hz1 := hb1.size; (try simp at hz1); (try simp only [heap_drew, World.heap_drewN] at hz1); (try simp only [heap_drew, World.heap_drewN] at hc1); (try simp only [heap_drew, World.heap_drewN] at hf1); (try have hs1 := Nat.lt_of_succ_le hz1); (try have hs2 := Nat.lt_of_succ_lt hs1); (try have y0 : w.heap.size < w1.heap.size := by omega); (try have y1 : w.heap.size + 1 < w1.heap.size := by omega); (try have y2 : w.heap.size + 2 < w1.heap.size := by omega)) | (go_at_call 33; (with_reducible refine (S1.out _ ?_ ?_ ?_).mono ?_); (focus (exact HT.out.below (by (repeat' (first | assumption | exact Below.refl _ _ | exact Below.size (by assumption) | (refine Below.setCell ?_ ?_ _) | (refine Below.alloc ?_ ?_ _) | (refine Below.drew ?_) | (refine below_drewN ?_ _) | (refine Below.trans ?_ (Below.mono ‹Below _ _ _› ?_)) | omega | (simp; done) | (simp; omega) | (simp at *; omega)))) hb)); (focus (first | (simp [go_sem, *]; done) | (simp [*]; done))); (focus (first | assumption | omega)); rintro e w2 ⟨rfl, hb2⟩; obtain ⟨hc2, hf2⟩ := bcell hb2; have hz2 := hb2.size; have yb2 : b < w2.heap.size := (by have := hb1.size; simp at this; omega); have yw2 : w.heap.size < w2.heap.size := (by have := hb1.size; simp at this; omega)))
  have hbW : Below w.heap.size w w2 := by (repeat' (first | assumption | exact Below.refl _ _ | exact Below.size (by assumption) | (refine Below.setCell ?_ ?_ _) | (refine Below.alloc ?_ ?_ _) | (refine Below.drew ?_) | (refine below_drewN ?_ _) | (refine Below.trans ?_ (Below.mono ‹Below _ _ _› ?_)) | omega | (simp; done) | (simp; omega) | (simp at *; omega)))
  have HT2 := HT.out.below hbW hb
  have ax := (HT2.2 0 (by omega)).1
  have ay := (HT2.2 0 (by omega)).2
  try simp at ax ay
  go_wp2_with fail
  go_ret2
  refine ⟨rfl, ?_⟩
  (repeat' (first | assumption | exact Below.refl _ _ | exact Below.size (by assumption) | (refine Below.setCell ?_ ?_ _) | (refine Below.alloc ?_ ?_ _) | (refine Below.drew ?_) | (refine below_drewN ?_ _) | (refine Below.trans ?_ (Below.mono ‹Below _ _ _› ?_)) | omega | (simp; done) | (simp; omega) | (simp at *; omega)))
set_option maxRecDepth 100000 in
set_option maxHeartbeats 2000000 in
theorem tmost_none (b off n c m : Nat) (X Y : Nat → Int) (y : Int) (w : World) (hv : TabOK n X Y) (ht : TabAt w b off n X Y) (hs : FirstAt (fun j => decide (y < Y j)) n n) (hm : n = m + 1) :
    Calls Tryz.prog 16 #[.slice (some ⟨b, off, none⟩) n c, .int .i64 y] w fun e w' => e = .returned (.tuple #[.int .i64 (X m), .int .i64 0]) ∧ Below w.heap.size w w' := by
  have hv1 := hv.1
  have hv2 := hv.2.1
  have S0 := Lib.hid fun w ht => tvalid b off n c X Y w hv.1 hv.2.1 ht
  have tv := tabB_true hv
  have S1 := Lib.hid fun (w' : World) ht hy hg => findex_most b off n c n w.heap.size X Y y w' (by omega) ht hy hg hs (-1 : Int) (by first | rw [if_neg (by omega)] | (rw [if_pos (by omega)]; rfl))
  have HT := Lib.hid ht
  have hb := ht.1
  have e1 : IntKind.i64.wrap ((n : Int) - 1) = (m : Int) := by rw [IntKind.wrap_i64]; omega
  have k0 : (0 : Int) ≤ (m : Int) := by omega
  have k1 : (m : Int) < (n : Int) := by omega
  have hmn : m < n := by omega
  clear hs hv ht hv2 hm
  go_enter Tryz.func16, Tryz.ntmps16
  go_upto_region 6 with (first | (go_at_call 23; (with_reducible refine (S0.out _ ?_).mono ?_); (focus (exact HT.out.below (by (repeat' (first | assumption | exact Below.refl _ _ | exact Below.size (by assumption) | (refine Below.setCell ?_ ?_ _) | (refine Below.alloc ?_ ?_ _) | (refine Below.drew ?_) | (refine below_drewN ?_ _) | (refine Below.trans ?_ (Below.mono ‹Below _ _ _› ?_)) | omega | (simp; done) | (simp; omega) | (simp at *; omega)))) hb)); rintro e w1 ⟨rfl, hb1⟩; obtain ⟨hc1, hf1⟩ := bcell hb1; have hz1 := hb1.size; (try simp at hz1); (try simp only [heap_drew, World.heap_drewN] at hz1); (try simp only [heap_drew, World.heap_drewN] at hc1); (try simp only [heap_drew, World.heap_drewN] at hf1); (try have hs1 := Nat.lt_of_succ_le hz1); (try have hs2 := Nat.lt_of_succ_lt hs1); (try have y0 : w.heap.size < w1.heap.size := by omega); (try have y1 : w.heap.size + 1 < w1.heap.size := by omega); (try have y2 : w.heap.size + 2 < w1.heap.size := by omega)) | (go_at_call 33; (with_reducible refine (S1.out _ ?_ ?_ ?_).mono ?_); (focus (exact HT.out.below (by (repeat' (first | assumption | exact Below.refl _ _ | exact Below.size (by assumption) | (refine Below.setCell ?_ ?_ _) | (refine Below.alloc ?_ ?_ _) | (refine Below.drew ?_) | (refine below_drewN ?_ _) | (refine Below.trans ?_ (Below.mono ‹Below _ _ _› ?_)) | omega | (simp; done) | (simp; omega) | (simp at *; omega)))) hb)); (focus (first | (simp [go_sem, *]; done) | (simp [*]; done))); (focus (first | assumption | omega)); rintro e w2 ⟨rfl, hb2⟩; obtain ⟨hc2, hf2⟩ := bcell hb2; have hz2 := hb2.size; have yb2 : b < w2.heap.size := (by have := hb1.size; simp at this; omega); have yw2 : w.heap.size < w2.heap.size := (by have := hb1.size; simp at this; omega)))
  have hbW : Below w.heap.size w w2 := by (repeat' (first | assumption | exact Below.refl _ _ | exact Below.size (by assumption) | (refine Below.setCell ?_ ?_ _) | (refine Below.alloc ?_ ?_ _) | (refine Below.drew ?_) | (refine below_drewN ?_ _) | (refine Below.trans ?_ (Below.mono ‹Below _ _ _› ?_)) | omega | (simp; done) | (simp; omega) | (simp at *; omega)))
  have HT2 := HT.out.below hbW hb
  have ax := (HT2.2 m hmn).1
  have ay := (HT2.2 m hmn).2
  try simp at ax ay
  go_wp2_with fail
  go_ret2
  refine ⟨rfl, ?_⟩
  (repeat' (first | assumption | exact Below.refl _ _ | exact Below.size (by assumption) | (refine Below.setCell ?_ ?_ _) | (refine Below.alloc ?_ ?_ _) | (refine Below.drew ?_) | (refine below_drewN ?_ _) | (refine Below.trans ?_ (Below.mono ‹Below _ _ _› ?_)) | omega | (simp; done) | (simp; omega) | (simp at *; omega)))
set_option maxRecDepth 100000 in
set_option maxHeartbeats 2000000 in
theorem tmost_first (b off n c : Nat) (X Y : Nat → Int) (y : Int) (w : World) (hv : TabOK n X Y) (ht : TabAt w b off n X Y) (hs : FirstAt (fun j => decide (y < Y j)) n 0) :
    Calls Tryz.prog 16 #[.slice (some ⟨b, off, none⟩) n c, .int .i64 y] w fun e w' => e = .returned (.tuple #[.int .i64 0, .int .i64 12]) ∧ Below w.heap.size w w' := by
  have hv1 := hv.1
  have hv2 := hv.2.1
  have S0 := Lib.hid fun w ht => tvalid b off n c X Y w hv.1 hv.2.1 ht
  have tv := tabB_true hv
  have S1 := Lib.hid fun (w' : World) ht hy hg => findex_most b off n c 0 w.heap.size X Y y w' (by omega) ht hy hg hs (0 : Int) (by first | rw [if_neg (by omega)] | (rw [if_pos (by omega)]; rfl))
  have HT := Lib.hid ht
  have hb := ht.1
  clear hs hv ht hv2
  go_enter Tryz.func16, Tryz.ntmps16
  go_wp2_with (first | (go_at_call 23; (with_reducible refine (S0.out _ ?_).mono ?_); (focus (exact HT.out.below (by (repeat' (first | assumption | exact Below.refl _ _ | exact Below.size (by assumption) | (refine Below.setCell ?_ ?_ _) | (refine Below.alloc ?_ ?_ _) | (refine Below.drew ?_) | (refine below_drewN ?_ _) | (refine Below.trans ?_ (Below.mono ‹Below _ _ _› ?_)) | omega | (simp; done) | (simp; omega) | (simp at *; omega)))) hb)); rintro e w1 ⟨rfl, hb1⟩; obtain ⟨hc1, hf1⟩ := bcell hb1; have hz1 := hb1.size; (try simp at hz1); (try simp only [heap_drew, World.heap_drewN] at hz1); (try simp only [heap_drew, World.heap_drewN] at hc1); (try simp only [heap_drew, World.heap_drewN] at hf1); (try have hs1 := Nat.lt_of_succ_le hz1); (try have hs2 := Nat.lt_of_succ_lt hs1); (try have y0 : w.heap.size < w1.heap.size := by omega); (try have y1 : w.heap.size + 1 < w1.heap.size := by omega); (try have y2 : w.heap.size + 2 < w1.heap.size := by omega)) | (go_at_call 33; (with_reducible refine (S1.out _ ?_ ?_ ?_).mono ?_); (focus (exact HT.out.below (by (repeat' (first | assumption | exact Below.refl _ _ | exact Below.size (by assumption) | (refine Below.setCell ?_ ?_ _) | (refine Below.alloc ?_ ?_ _) | (refine Below.drew ?_) | (refine below_drewN ?_ _) | (refine Below.trans ?_ (Below.mono ‹Below _ _ _› ?_)) | omega | (simp; done) | (simp; omega) | (simp at *; omega)))) hb)); (focus (first | (simp [go_sem, *]; done) | (simp [*]; done))); (focus (first | assumption | omega)); rintro e w2 ⟨rfl, hb2⟩; obtain ⟨hc2, hf2⟩ := bcell hb2; have hz2 := hb2.size; have yb2 : b < w2.heap.size := (by have := hb1.size; simp at this; omega); have yw2 : w.heap.size < w2.heap.size := (by have := hb1.size; simp at this; omega)))
  go_ret2
  refine ⟨rfl, ?_⟩
  (repeat' (first | assumption | exact Below.refl _ _ | exact Below.size (by assumption) | (refine Below.setCell ?_ ?_ _) | (refine Below.alloc ?_ ?_ _) | (refine Below.drew ?_) | (refine below_drewN ?_ _) | (refine Below.trans ?_ (Below.mono ‹Below _ _ _› ?_)) | omega | (simp; done) | (simp; omega) | (simp at *; omega)))
end Go.Proofs.YtapfmbnppeonkaaGreatDoor

namespace Go.Proofs.YtapfmbnppeonkaaGreatDoor
open Go.RowKit
set_option linter.unusedVariables false
set_option linter.unusedSimpArgs false
set_option maxHeartbeats 1000000

end Go.Proofs.YtapfmbnppeonkaaGreatDoor

namespace Go.Proofs.YtapfmbnppeonkaaGreatDoor
open Go.RowKit
set_option linter.unusedVariables false
set_option linter.unusedSimpArgs false

end Go.Proofs.YtapfmbnppeonkaaGreatDoor

namespace Go.Proofs.YtapfmbnppeonkaaGreatDoor
open Go.RowKit
set_option linter.unusedVariables false
set_option linter.unusedSimpArgs false

def LeastIs (X Y : Nat → Int) (m : Nat) (y v e : Int) : Prop := (Val.LeastAt X Y m y v ∧ e = 0) ∨ (Y m < y ∧ v = 0 ∧ e = 12)
def MostIs (X Y : Nat → Int) (m : Nat) (y v e : Int) : Prop := (Val.MostAt X Y m y v ∧ e = 0) ∨ (y < Y 0 ∧ v = 0 ∧ e = 12)
/-- The package alone. -/
theorem least_t (m : Nat) (X Y : Nat → Int) (y : Int) (hv : TabOK (m + 1) X Y) : ∃ v e, LeastIs X Y m y v e ∧
    ∀ (b off c : Nat) (w : World), TabAt w b off (m + 1) X Y →
      (Calls Tryz.prog 15 #[.slice (some ⟨b, off, none⟩) (m + 1 : Nat) c, .int .i64 y] w fun e' w' => e' = .returned (.tuple #[.int .i64 v, .int .i64 e]) ∧ Below w.heap.size w w') := by
  have ha := asc_of hv
  obtain ⟨k, hk⟩ := first_ex (fun j => decide (y ≤ Y j)) (m + 1)
  rcases Nat.lt_or_ge k (m + 1) with h1 | h1
  · have hy := of_decide_eq_true (hk.2.2 h1)
    rcases Nat.eq_zero_or_pos k with h0 | h0
    · subst h0
      exact ⟨X 0, 0, .inl ⟨.inl ⟨hy, rfl⟩, rfl⟩, fun b off c w ht => tleast_first b off (m + 1) c X Y y w hv ht hk⟩
    · obtain ⟨p, rfl⟩ : ∃ p, k = p + 1 := ⟨k - 1, by omega⟩
      have hyp := of_decide_eq_false (hk.2.1 p (by omega))
      have hap := ha p (by omega)
      obtain ⟨T, eT⟩ : ∃ U : Nat, y - Y p = (U : Int) := ⟨(y - Y p).toNat, by omega⟩
      obtain ⟨D, eD⟩ : ∃ U : Nat, X (p + 1) - X p = (U : Int) := ⟨(X (p + 1) - X p).toNat, by omega⟩
      obtain ⟨U, eU⟩ : ∃ U : Nat, Y (p + 1) - Y p = (U : Int) := ⟨(Y (p + 1) - Y p).toNat, by omega⟩
      have hU : 0 < U := by omega
      have e : X p + (((T * D + U - 1) / U : Nat) : Int) = X p + ((y - Y p) * (X (p + 1) - X p) + (Y (p + 1) - Y p) - 1) / (Y (p + 1) - Y p) := by
        rw [eT, eD, eU, Int.natCast_ediv, ← Int.natCast_mul]
        congr 2
        omega
      exact ⟨_, 0, .inl ⟨.inr ⟨p, by omega, by omega, hy, rfl⟩, rfl⟩, fun b off c w ht =>
        tleast_mid b off (m + 1) c p T D U X Y y w hv ht h1 hk eT eD eU (by omega) hU _ e.symm⟩
  · have : k = m + 1 := by have := hk.1; omega
    subst this
    have hy := of_decide_eq_false (hk.2.1 m (by omega))
    exact ⟨0, 12, .inr ⟨by omega, rfl, rfl⟩, fun b off c w ht => tleast_none b off (m + 1) c X Y y w hv ht hk⟩
theorem most_t (m : Nat) (X Y : Nat → Int) (y : Int) (hv : TabOK (m + 1) X Y) : ∃ v e, MostIs X Y m y v e ∧
    ∀ (b off c : Nat) (w : World), TabAt w b off (m + 1) X Y →
      (Calls Tryz.prog 16 #[.slice (some ⟨b, off, none⟩) (m + 1 : Nat) c, .int .i64 y] w fun e' w' => e' = .returned (.tuple #[.int .i64 v, .int .i64 e]) ∧ Below w.heap.size w w') := by
  have ha := asc_of hv
  obtain ⟨k, hk⟩ := first_ex (fun j => decide (y < Y j)) (m + 1)
  rcases Nat.lt_or_ge k (m + 1) with h1 | h1
  · have hy := of_decide_eq_true (hk.2.2 h1)
    rcases Nat.eq_zero_or_pos k with h0 | h0
    · subst h0
      exact ⟨0, 12, .inr ⟨hy, rfl, rfl⟩, fun b off c w ht => tmost_first b off (m + 1) c X Y y w hv ht hk⟩
    · obtain ⟨p, rfl⟩ : ∃ p, k = p + 1 := ⟨k - 1, by omega⟩
      have hyp := of_decide_eq_false (hk.2.1 p (by omega))
      have hy0 := of_decide_eq_false (hk.2.1 0 (by omega))
      have hap := ha p (by omega)
      have hB : BInv Y y (m + 1) p := .inr ⟨p, by omega, rfl, by omega, fun j hj hj' => by have := (ha.mono (by omega : j ≤ m) (by omega : p + 1 ≤ j)).2; omega⟩
      obtain ⟨T, eT⟩ : ∃ U : Nat, y - Y p = (U : Int) := ⟨(y - Y p).toNat, by omega⟩
      obtain ⟨D, eD⟩ : ∃ U : Nat, X (p + 1) - X p = (U : Int) := ⟨(X (p + 1) - X p).toNat, by omega⟩
      obtain ⟨U, eU⟩ : ∃ U : Nat, Y (p + 1) - Y p = (U : Int) := ⟨(Y (p + 1) - Y p).toNat, by omega⟩
      have hU : 0 < U := by omega
      have e : X p + ((T * D / U : Nat) : Int) = X p + ((y - Y p) * (X (p + 1) - X p)) / (Y (p + 1) - Y p) := by
        rw [eT, eD, eU, Int.natCast_ediv, ← Int.natCast_mul]
      exact ⟨_, 0, .inl ⟨.inr ⟨p, by omega, by omega, hy, rfl⟩, rfl⟩, fun b off c w ht =>
        tmost_mid b off (m + 1) c p T D U X Y y w hv ht h1 hk eT eD eU (by omega) hU _ e.symm⟩
  · have : k = m + 1 := by have := hk.1; omega
    subst this
    have hy := of_decide_eq_false (hk.2.1 m (by omega))
    have hy0 := of_decide_eq_false (hk.2.1 0 (by omega))
    have hB : BInv Y y (m + 1) m := .inr ⟨m, by omega, rfl, by omega, fun j hj hj' => absurd hj' (by omega)⟩
    exact ⟨X m, 0, .inl ⟨.inl ⟨by omega, rfl⟩, rfl⟩, fun b off c w ht => tmost_none b off (m + 1) c m X Y y w hv ht hk rfl⟩
end Go.Proofs.YtapfmbnppeonkaaGreatDoor

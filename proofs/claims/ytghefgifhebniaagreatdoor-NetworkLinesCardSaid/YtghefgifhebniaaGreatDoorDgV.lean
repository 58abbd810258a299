/- digraph.Valid at edges within the nodes. -/
import Derived.Test.YtghefgifhebniaaGreatDoorMgN
import Derived.Test.YtghefgifhebniaaGreatDoorNetE
namespace Go.Proofs.YtghefgifhebniaaGreatDoor
open Go.RowKit
set_option linter.unusedVariables false
set_option linter.unusedSimpArgs false
theorem dg_is (n : Nat) (x : Int) (h0 : 0 ≤ x) (h1 : x < n) (w : World) : Calls Tryz.prog 134 #[.int .i64 n, .int .i64 x] w fun e w' => e = .returned (.bool true) ∧ w' = w := by
 have t0 : decide ((0 : Int) ≤ x) = true := decide_eq_true h0
 have t1 : decide (x < (n : Int)) = true := decide_eq_true h1
 go_enter Tryz.func134, Tryz.ntmps134
 go_wp2_with fail
 go_ret
 exact ⟨rfl, rfl⟩
theorem dg_v1 (n g : Nat) (x y : Int) (hx : 0 ≤ x ∧ x < n) (hy : 0 ≤ y ∧ y < n) (w : World) (hg : w.cell? ⟨g, 0, none⟩ = some (.int .i64 n)) (hl : g < w.heap.size) :
 Calls Tryz.prog 133 #[.agg #[.int .i64 x, .int .i64 y], .pointer (some ⟨g, 0, none⟩)] w fun e w' => e = .returned (.bool false) ∧ Below w.heap.size w w' := by
 have S1 := Lib.hid fun w => dg_is n x hx.1 hx.2 w
 have S2 := Lib.hid fun w => dg_is n y hy.1 hy.2 w
 clear hx hy
 go_enter Tryz.func133, Tryz.ntmps133
 go_wp2_with (first | (go_at_call 134; (with_reducible refine (S1.out _).mono ?_); rintro e w' ⟨rfl, rfl⟩) | (go_at_call 134; (with_reducible refine (S2.out _).mono ?_); rintro e w' ⟨rfl, rfl⟩))
 go_ret
 exact ⟨rfl, bel⟩
set_option maxRecDepth 100000 in
set_option maxHeartbeats 2000000 in
theorem dg_find (A : Option Addr) (n g m c : Nat) (X Y : Nat → Int) (w : World) (hm : m ≤ 1000) (hE : EdOK n X Y m) (ht : TabIn w A m X Y) (hg : w.cell? ⟨g, 0, none⟩ = some (.int .i64 n)) (hl : g < w.heap.size) :
 Calls Tryz.prog 165 #[.slice A m c, .func (.func 133) #[] #[.pointer (some ⟨g, 0, none⟩)]] w fun e w' => e = .returned (.int .i64 (-1)) ∧ Below w.heap.size w w' := by
 have HT := Lib.hid ht
 have HE := Lib.hid hE
 have HM := Lib.hid hm
 have HG : Hid (∀ w', Below w.heap.size w w' → w'.cell? ⟨g, 0, none⟩ = some (.int .i64 n) ∧ g < w'.heap.size) := fun w' hb => ⟨(hb.cell (p := ⟨g, 0, none⟩) hl).trans hg, Nat.lt_of_lt_of_le hl hb.size⟩
 clear ht hE hm hg hl
 go_enter Tryz.func165, Tryz.ntmps165
 go_wp2_with fail
 go_loopw [8] (fun u wr => ∃ i : Nat, Hid (i ≤ m) ∧ u = .int .i64 i ∧ Hid (Below w.heap.size w wr)) (fun u _ => m - (RowKit.intOf u).toNat)
 case atStart => exact ⟨0, Nat.zero_le _, rfl, Below.refl _ _⟩
 case round =>
  obtain ⟨i, Hi, rfl, HW⟩ := hrel
  by_cases hlt : i < m
  · have T0 : decide ((i : Int) < (m : Int)) = true := by simp <;> omega
    have T0' : decide (i < m) = true := decide_eq_true hlt
    obtain ⟨i', hi'⟩ : ∃ z, z = i + 1 := ⟨_, rfl⟩
    have x0 : IntKind.i64.wrap ((i : Int) + 1) = (i' : Int) := by have := HM.out; rw [IntKind.wrap_i64]; omega
    obtain ⟨b, off, rfl, hb, c0, c1⟩ := (HT.out.below (Nat.le_refl _) HW.out).at hlt
    have k0 : (0 : Int) ≤ (i : Int) := by omega
    have k1 : (i : Int) < (m : Int) := by omega
    have HI' : Hid (i' ≤ m) := by show _ ≤ _; omega
    have HMS : Hid (m - (RowKit.intOf (Value.int .i64 (i' : Int))).toNat < m - (RowKit.intOf (Value.int .i64 (i : Int))).toNat) := by show _ < _; simp [RowKit.intOf]; omega
    have KK : Hid (∀ w', Below w.heap.size w w' → Calls Tryz.prog 133 #[.agg #[.int .i64 (X i), .int .i64 (Y i)], .pointer (some ⟨g, 0, none⟩)] w' fun e w'' => e = .returned (.bool false) ∧ Below w'.heap.size w' w'') := fun w' hb => dg_v1 n g (X i) (Y i) (HE.out.x i hlt) (HE.out.y i hlt) w' (HG.out w' hb).1 (HG.out w' hb).2
    clear hi' hlt
    go_wp2_with (first
        | (go_at_call 133
           with_reducible refine (KK.out _ ?_).mono ?_
           focus (have := HW.out; exact bel)
           rintro e w1 ⟨rfl, hb1⟩
           have HW1 : Hid (Below w.heap.size w w1) := by show Below _ _ _; have := HW.out; exact bel
           clear hb1))
    go_roundw
    case rel => exact ⟨i', HI', rfl, HW1⟩
    case measure => exact HMS.out
  · have T0 : decide ((i : Int) < (m : Int)) = false := by simp <;> omega
    have T0' : decide (i < m) = false := decide_eq_false hlt
    clear hlt
    go_wp2_with fail
    go_ret
    exact ⟨rfl, HW.out⟩
theorem dg_has (A : Option Addr) (n g m c : Nat) (X Y : Nat → Int) (w : World) (hm : m ≤ 1000) (hE : EdOK n X Y m) (ht : TabIn w A m X Y) (hg : w.cell? ⟨g, 0, none⟩ = some (.int .i64 n)) (hl : g < w.heap.size) :
 Calls Tryz.prog 132 #[.slice A m c, .func (.func 133) #[] #[.pointer (some ⟨g, 0, none⟩)]] w fun e w' => e = .returned (.bool false) ∧ Below w.heap.size w w' := by
 have S := Lib.hid (dg_find A n g m c X Y w hm hE ht hg hl)
 clear hE ht hg hl hm
 go_enter Tryz.func132, Tryz.ntmps132
 go_wp2_with (first | (go_at_call 165; (with_reducible refine (S.out).mono ?_); rintro e w1 ⟨rfl, hb1⟩; obtain ⟨hc1, hf1⟩ := bcell hb1; have hz1 := hb1.size; (try simp at hz1); (try simp only [heap_drew, World.heap_drewN] at hz1); (try simp only [heap_drew, World.heap_drewN] at hc1); (try simp only [heap_drew, World.heap_drewN] at hf1); (try have hs1 := Nat.lt_of_succ_le hz1); (try have hs2 := Nat.lt_of_succ_lt hs1); (try have y0 : w.heap.size < w1.heap.size := by omega); (try have y1 : w.heap.size + 1 < w1.heap.size := by omega); (try have y2 : w.heap.size + 2 < w1.heap.size := by omega)))
 go_ret
 exact ⟨rfl, bel⟩
theorem dg_valid (A : Option Addr) (n m c : Nat) (X Y : Nat → Int) (w : World) (hn : n ≤ 300) (hm : m ≤ 1000) (hE : EdOK n X Y m) (ht : TabIn w A m X Y) :
 Calls Tryz.prog 91 #[.int .i64 n, .slice A m c] w fun e w' => e = .returned (.bool true) ∧ Below w.heap.size w w' := by
 have S : Hid (∀ w' g, Below w.heap.size w w' → w'.cell? ⟨g, 0, none⟩ = some (.int .i64 n) → g < w'.heap.size → Calls Tryz.prog 132 #[.slice A m c, .func (.func 133) #[] #[.pointer (some ⟨g, 0, none⟩)]] w' fun e w'' => e = .returned (.bool false) ∧ Below w'.heap.size w' w'') := fun w' g hb hg hl => dg_has A n g m c X Y w' hm hE (ht.below (Nat.le_refl _) hb) hg hl
 have t0 : decide ((n : Int) < 0) = false := decide_eq_false (by omega)
 have t1 : decide ((300 : Int) < (n : Int)) = false := decide_eq_false (by omega)
 have t2 : decide ((1000 : Int) < (m : Int)) = false := decide_eq_false (by omega)
 have t1' : decide (300 < n) = false := decide_eq_false (by omega)
 have t2' : decide (1000 < m) = false := decide_eq_false (by omega)
 clear hE ht hm hn
 go_enter Tryz.func91, Tryz.ntmps91
 go_wp2_with (first
  | (go_at_call 132
     with_reducible refine (S.out _ _ ?_ ?_ ?_).mono ?_
     focus (exact (Below.refl _ w).alloc (Nat.le_refl _) _)
     focus (simp)
     focus (simp)
     rintro e w1 ⟨rfl, hb1⟩
     have HW1 : Hid (Below w.heap.size w w1) := ((Below.refl _ w).alloc (Nat.le_refl _) _).trans (hb1.mono (by simp))
     clear hb1))
 go_ret
 exact ⟨rfl, HW1.out⟩
theorem dg_r1 (n g : Nat) (x : Int) (hx : 0 ≤ x ∧ x < n) (w : World) (hg : w.cell? ⟨g, 0, none⟩ = some (.int .i64 n)) (hl : g < w.heap.size) :
 Calls Tryz.prog 146 #[.int .i64 x, .pointer (some ⟨g, 0, none⟩)] w fun e w' => e = .returned (.bool false) ∧ Below w.heap.size w w' := by
 have S1 := Lib.hid fun w => dg_is n x hx.1 hx.2 w
 clear hx
 go_enter Tryz.func146, Tryz.ntmps146
 go_wp2_with (first | (go_at_call 134; (with_reducible refine (S1.out _).mono ?_); rintro e w' ⟨rfl, rfl⟩))
 go_ret
 exact ⟨rfl, bel⟩
set_option maxRecDepth 100000 in
set_option maxHeartbeats 2000000 in
theorem dg_findr (A : Option Addr) (n g m c : Nat) (C : Nat → Int) (w : World) (hm : m ≤ 1000) (hE : ∀ k, k < m → 0 ≤ C k ∧ C k < n) (ht : IntIn w A m C) (hg : w.cell? ⟨g, 0, none⟩ = some (.int .i64 n)) (hl : g < w.heap.size) :
 Calls Tryz.prog 138 #[.slice A m c, .func (.func 146) #[] #[.pointer (some ⟨g, 0, none⟩)]] w fun e w' => e = .returned (.int .i64 (-1)) ∧ Below w.heap.size w w' := by
 have HT := Lib.hid ht
 have HE := Lib.hid hE
 have HM := Lib.hid hm
 have HG : Hid (∀ w', Below w.heap.size w w' → w'.cell? ⟨g, 0, none⟩ = some (.int .i64 n) ∧ g < w'.heap.size) := fun w' hb => ⟨(hb.cell (p := ⟨g, 0, none⟩) hl).trans hg, Nat.lt_of_lt_of_le hl hb.size⟩
 clear ht hE hm hg hl
 go_enter Tryz.func138, Tryz.ntmps138
 go_wp2_with fail
 go_loopw [8] (fun u wr => ∃ i : Nat, Hid (i ≤ m) ∧ u = .int .i64 i ∧ Hid (Below w.heap.size w wr)) (fun u _ => m - (RowKit.intOf u).toNat)
 case atStart => exact ⟨0, Nat.zero_le _, rfl, Below.refl _ _⟩
 case round =>
  obtain ⟨i, Hi, rfl, HW⟩ := hrel
  by_cases hlt : i < m
  · have T0 : decide ((i : Int) < (m : Int)) = true := by simp <;> omega
    have T0' : decide (i < m) = true := decide_eq_true hlt
    obtain ⟨i', hi'⟩ : ∃ z, z = i + 1 := ⟨_, rfl⟩
    have x0 : IntKind.i64.wrap ((i : Int) + 1) = (i' : Int) := by have := HM.out; rw [IntKind.wrap_i64]; omega
    obtain ⟨b, off, rfl, hb, c0⟩ := (HT.out.below (Nat.le_refl _) HW.out).at hlt
    have k0 : (0 : Int) ≤ (i : Int) := by omega
    have k1 : (i : Int) < (m : Int) := by omega
    have HI' : Hid (i' ≤ m) := by show _ ≤ _; omega
    have HMS : Hid (m - (RowKit.intOf (Value.int .i64 (i' : Int))).toNat < m - (RowKit.intOf (Value.int .i64 (i : Int))).toNat) := by show _ < _; simp [RowKit.intOf]; omega
    have KK : Hid (∀ w', Below w.heap.size w w' → Calls Tryz.prog 146 #[.int .i64 (C i), .pointer (some ⟨g, 0, none⟩)] w' fun e w'' => e = .returned (.bool false) ∧ Below w'.heap.size w' w'') := fun w' hb => dg_r1 n g (C i) (HE.out i hlt) w' (HG.out w' hb).1 (HG.out w' hb).2
    clear hi' hlt
    go_wp2_with (first
        | (go_at_call 146
           with_reducible refine (KK.out _ ?_).mono ?_
           focus (have := HW.out; exact bel)
           rintro e w1 ⟨rfl, hb1⟩
           have HW1 : Hid (Below w.heap.size w w1) := by show Below _ _ _; have := HW.out; exact bel
           clear hb1))
    go_roundw
    case rel => exact ⟨i', HI', rfl, HW1⟩
    case measure => exact HMS.out
  · have T0 : decide ((i : Int) < (m : Int)) = false := by simp <;> omega
    have T0' : decide (i < m) = false := decide_eq_false hlt
    clear hlt
    go_wp2_with fail
    go_ret
    exact ⟨rfl, HW.out⟩
theorem dg_hasr (A : Option Addr) (n g m c : Nat) (C : Nat → Int) (w : World) (hm : m ≤ 1000) (hE : ∀ k, k < m → 0 ≤ C k ∧ C k < n) (ht : IntIn w A m C) (hg : w.cell? ⟨g, 0, none⟩ = some (.int .i64 n)) (hl : g < w.heap.size) :
 Calls Tryz.prog 145 #[.slice A m c, .func (.func 146) #[] #[.pointer (some ⟨g, 0, none⟩)]] w fun e w' => e = .returned (.bool false) ∧ Below w.heap.size w w' := by
 have S := Lib.hid (dg_findr A n g m c C w hm hE ht hg hl)
 clear hE ht hg hl hm
 go_enter Tryz.func145, Tryz.ntmps145
 go_wp2_with (first | (go_at_call 138; (with_reducible refine (S.out).mono ?_); rintro e w1 ⟨rfl, hb1⟩; obtain ⟨hc1, hf1⟩ := bcell hb1; have hz1 := hb1.size; (try simp at hz1); (try simp only [heap_drew, World.heap_drewN] at hz1); (try simp only [heap_drew, World.heap_drewN] at hc1); (try simp only [heap_drew, World.heap_drewN] at hf1); (try have hs1 := Nat.lt_of_succ_le hz1); (try have hs2 := Nat.lt_of_succ_lt hs1); (try have y0 : w.heap.size < w1.heap.size := by omega); (try have y1 : w.heap.size + 1 < w1.heap.size := by omega); (try have y2 : w.heap.size + 2 < w1.heap.size := by omega)))
 go_ret
 exact ⟨rfl, bel⟩
end Go.Proofs.YtghefgifhebniaaGreatDoor

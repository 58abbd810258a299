/- The examples of the chapter, which each law of it checks first. -/
import Derived.Test.YthbdeaglncoanaaGreatDoorCircle
import Derived.Test.YthbdeaglncoanaaGreatDoorCap
namespace Go.Proofs.YthbdeaglncoanaaGreatDoor
open Go.RowKit
set_option linter.unusedVariables false
set_option linter.unusedSimpArgs false

def exX : Nat → Int := fun k => if k = 0 then 0 else 100
def exA : Nat → Int := fun k => if k = 0 then 0 else 5000
def exC : Nat → Int := fun k => if k = 0 then 0 else 1000000
theorem ex_tab {Y : Nat → Int} (h0 : Y 0 = 0) (h1 : 0 ≤ Y 1) (h2 : Y 1 ≤ 1125899906842624) : TabOK 2 exX Y := by
  refine ⟨by omega, by omega, fun k hk => ?_⟩
  have : k = 0 ∨ k = 1 := by omega
  rcases this with rfl | rfl
  · exact ⟨by unfold inB exX; simp, by unfold inB; omega, fun h => absurd h (by omega)⟩
  · exact ⟨by unfold inB exX; simp, by unfold inB; omega, fun _ => ⟨by simp [exX], by simp; omega⟩⟩
theorem ex_sec : SecOK [97] 100 0 2 exX exA 2 exX exC :=
  ⟨by decide, by omega, by omega, by omega, by omega, ⟨ex_tab rfl (by simp [exA]) (by simp [exA]), rfl, rfl, rfl, by simp [exA]⟩, ⟨ex_tab rfl (by simp [exC]) (by simp [exC]), rfl, rfl, rfl, by simp [exC]⟩⟩
theorem ex_val : valK 2 exX exC 50 = 500000 := by
  have h : Val.val exX exC 1 50 = 500000 := by
    simp [Val.val, Val.fl, exX, exC]
  unfold valK
  rw [show 2 - 1 = 1 from rfl, h]; rfl
theorem ex_cap : CapIs (SecOK [97] 100 0 2 exX exA 2 exX exC) 100 50 1 10000 (capN (valK 2 exX exC 50) (1 : Int).toNat (10000 : Int).toNat) 5000 0 := by
  have e : capN (valK 2 exX exC 50) (1 : Int).toNat (10000 : Int).toNat = 5000 := by
    rw [ex_val]; unfold capN
    exact (Num.isq_eq (by decide) (by decide)).symm
  rw [e]
  exact .inr (.inr (.inr ⟨ex_sec, by omega, by omega, by decide, by omega, rfl, rfl⟩))
theorem cw1 : Circ.cw 300 3 1 = 282 := by unfold Circ.cw Circ.cd; exact (Num.isq_eq (by decide) (by decide)).symm
theorem cw2 : Circ.cw 300 3 2 = 282 := by unfold Circ.cw Circ.cd; exact (Num.isq_eq (by decide) (by decide)).symm
theorem cw3 : Circ.cw 300 3 3 = 0 := by unfold Circ.cw Circ.cd; exact (Num.isq_eq (by decide) (by decide)).symm
theorem cw0 : Circ.cw 300 3 0 = 0 := by unfold Circ.cw Circ.cd; exact (Num.isq_eq (by decide) (by decide)).symm
theorem ca_succ (S P i : Nat) : Circ.ca S P (i + 1) = Circ.ca S P i + (Circ.cw S P i + Circ.cw S P (i + 1)) * Circ.cs S P i / 2 := rfl
theorem ca_of {S P i a b c d : Nat} (ha : Circ.ca S P i = a) (hb : Circ.cw S P i = b) (hc : Circ.cw S P (i + 1) = c) (hd : Circ.cs S P i = d) : Circ.ca S P (i + 1) = a + (b + c) * d / 2 := by rw [ca_succ, ha, hb, hc, hd]
theorem ca1 : Circ.ca 300 3 1 = 14100 := ca_of (i := 0) (a := 0) (d := 100) rfl cw0 cw1 rfl
theorem ca2 : Circ.ca 300 3 2 = 42300 := ca_of (i := 1) (d := 100) ca1 cw1 cw2 rfl
theorem ca3 : Circ.ca 300 3 3 = 56400 := ca_of (i := 2) (d := 100) ca2 cw2 cw3 rfl
theorem tab_lit2 {w : World} {g : Nat} {Y : Nat → Int} (hb : g < w.heap.size) (h0 : w.cell? ⟨g, 0, none⟩ = some (.int .i64 0)) (h1 : w.cell? ⟨g, 1, none⟩ = some (.int .i64 (Y 0))) (h2 : w.cell? ⟨g, 2, none⟩ = some (.int .i64 100)) (h3 : w.cell? ⟨g, 3, none⟩ = some (.int .i64 (Y 1))) :
    TabIn w (some ⟨g, 0, none⟩) 2 exX Y := by
  refine ⟨by omega, .inr ⟨g, 0, rfl, hb, fun k hk => ?_⟩⟩
  have : k = 0 ∨ k = 1 := by omega
  rcases this with rfl | rfl
  · exact ⟨h0, h1⟩
  · exact ⟨h2, h3⟩

theorem tab_lit4 {w : World} {g : Nat} (hb : g < w.heap.size) (h : ∀ i : Nat, i < 8 → w.cell? ⟨g, i, none⟩ = (#[Value.int .i64 0, Value.int .i64 0, Value.int .i64 100, Value.int .i64 14100, Value.int .i64 200, Value.int .i64 42300, Value.int .i64 300, Value.int .i64 56400] : Array Value)[i]?) :
    TabAt w g 0 4 (fun k => ((Circ.cd 300 3 k : Nat) : Int)) (fun k => ((Circ.ca 300 3 k : Nat) : Int)) := by
  refine ⟨hb, fun k hk => ?_⟩
  have h1 := h (k * 2) (by omega)
  have h2 := h (k * 2 + 1) (by omega)
  rw [Nat.zero_add]
  have : k = 0 ∨ k = 1 ∨ k = 2 ∨ k = 3 := by omega
  rcases this with rfl | rfl | rfl | rfl
  · exact ⟨h1, h2⟩
  · exact ⟨h1, by show _ = some (Value.int .i64 ((Circ.ca 300 3 1 : Nat) : Int)); rw [ca1]; exact h2⟩
  · exact ⟨h1, by show _ = some (Value.int .i64 ((Circ.ca 300 3 2 : Nat) : Int)); rw [ca2]; exact h2⟩
  · exact ⟨h1, by show _ = some (Value.int .i64 ((Circ.ca 300 3 3 : Nat) : Int)); rw [ca3]; exact h2⟩

set_option maxRecDepth 100000 in
set_option maxHeartbeats 2000000 in
theorem cawake (w : World) : Calls Tryz.prog 4 #[] w fun e w' => e = .returned (.bool true) ∧ Below w.heap.size w w' := by
  have S1 := Lib.hid fun (A C : Option Addr) w hA hC => ccap ⟨#[97]⟩ 100 0 A C 2 2 2 2 exX exA exX exC 50 1 10000 5000 0 w (by decide) hA hC ex_cap
  have S2 : Hid (∀ w, Calls Tryz.prog 16 #[.string ⟨#[99, 51, 48, 48]⟩, .int .i64 300, .int .i64 0, .int .i64 3] w (CircPost w ⟨#[99, 51, 48, 48]⟩ 300 3 0)) := fun w => ccircle ⟨#[99, 51, 48, 48]⟩ 300 3 0 w (by decide) (by decide) (by decide) (by decide) (by decide) (by decide) (by decide)
  go_enter Tryz.func4, Tryz.ntmps4
  go_wp2_with (first | (go_at_call 16; (with_reducible refine (S2.out _).mono ?_); rintro e w1 ⟨ga, capA, gc, capC, rfl, lga, lgc, tA, tC, hb1⟩; obtain ⟨hc1, hf1⟩ := bcell hb1; have hz1 := hb1.size) | (go_at_call 15; (with_reducible refine (S1.out _ _ _ ?_ ?_).mono ?_); (focus (exact tab_lit2 (by simp <;> omega) (by simp [go_sem]) (by simp [go_sem, exA]) (by simp [go_sem]) (by simp [go_sem, exA]))); (focus (exact tab_lit2 (by simp <;> omega) (by simp [go_sem]) (by simp [go_sem, exC]) (by simp [go_sem]) (by simp [go_sem, exC]))); rintro e w1 ⟨rfl, hb1⟩; obtain ⟨hc1, hf1⟩ := bcell hb1; have hz1 := hb1.size; (try simp at hz1); (try simp only [heap_drew, World.heap_drewN] at hz1); (try simp only [heap_drew, World.heap_drewN] at hc1); (try simp only [heap_drew, World.heap_drewN] at hf1); (try have hs1 := Nat.lt_of_succ_le hz1); (try have hs2 := Nat.lt_of_succ_lt hs1); (try have y0 : w.heap.size < w1.heap.size := by omega); (try have y1 : w.heap.size + 1 < w1.heap.size := by omega); (try have y2 : w.heap.size + 2 < w1.heap.size := by omega)))
  refine (sequal ga 0 capA (w1.heap.size + 1) 0 4 4 (fun k => ((Circ.cd 300 3 k : Nat) : Int)) (fun k => ((Circ.ca 300 3 k : Nat) : Int)) _ (by omega) ?_ ?_).mono ?_
  · exact tA.below (B := w1.heap.size) (by (repeat' (first | assumption | exact Below.refl _ _ | exact Below.size (by assumption) | (refine Below.setCell ?_ ?_ _) | (refine Below.alloc ?_ ?_ _) | (refine Below.drew ?_) | (refine below_drewN ?_ _) | (refine Below.trans ?_ (Below.mono ‹Below _ _ _› ?_)) | omega | (simp; done) | (simp; omega) | (simp at *; omega)))) tA.1
  · refine tab_lit4 (by simp) (fun i hi => ?_)
    have : i = 0 ∨ i = 1 ∨ i = 2 ∨ i = 3 ∨ i = 4 ∨ i = 5 ∨ i = 6 ∨ i = 7 := by omega
    rcases this with rfl | rfl | rfl | rfl | rfl | rfl | rfl | rfl <;> simp [go_sem]
  rintro e w2 ⟨rfl, hb2⟩
  go_wp2_with fail
  go_ret
  refine ⟨rfl, ?_⟩
  try simp at hz1
  have hz2 := hb2.size
  try simp at hz2
  (repeat' (first | assumption | exact Below.refl _ _ | exact Below.size (by assumption) | (refine Below.setCell ?_ ?_ _) | (refine Below.alloc ?_ ?_ _) | (refine Below.drew ?_) | (refine below_drewN ?_ _) | (refine Below.trans ?_ (Below.mono ‹Below _ _ _› ?_)) | omega | (simp; done) | (simp; omega) | (simp at *; omega)))
end Go.Proofs.YthbdeaglncoanaaGreatDoor

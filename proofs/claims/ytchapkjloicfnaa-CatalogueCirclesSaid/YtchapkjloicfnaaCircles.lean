/- The law CatalogueCircles, walked: whatever the name and the numbers, it returns true. -/
import Derived.Test.YtchapkjloicfnaaRefL
import Derived.Test.YtchapkjloicfnaaOne
import Derived.Test.YtchapkjloicfnaaAwake
namespace Go.Proofs.Ytchapkjloicfnaa
open Go.RowKit
set_option linter.unusedVariables false
set_option linter.unusedSimpArgs false

theorem TabAt.call {w w' : World} {b off n : Nat} {X Y : Nat → Int} (h : TabAt w b off n X Y) (hb : Below w.heap.size w w') : TabAt w' b off n X Y := h.below hb h.1
theorem TabAt.alloc {w : World} {b off n : Nat} {X Y : Nat → Int} (h : TabAt w b off n X Y) (o : Obj) : TabAt (w.alloc o) b off n X Y := h.below ((Below.refl _ _).alloc (Nat.le_refl _) o) h.1
/-- A circle is a valid section. -/
theorem circ_curve {S P : Nat} {Y : Nat → Nat} {most : Int} (h2 : 2 ≤ P) (h99 : P ≤ 99) (hPS : P ≤ S) (hS : S ≤ 32768) (h0 : Y 0 = 0) (hm : ∀ i, i + 1 ≤ P → Y i ≤ Y (i + 1)) (hY : ∀ i, i ≤ P → Y i ≤ 274877906944) (hl : (Y P : Int) ≤ most) :
    CurveOK (P + 1) (fun k => ((Circ.cd S P k : Nat) : Int)) (fun k => ((Y k : Nat) : Int)) (S : Int) most := by
  refine ⟨⟨by omega, by omega, fun k hk => ⟨?_, ?_, fun h => ?_⟩⟩, ?_, ?_, ?_, ?_⟩
  · have := Circ.cd_le h2 hPS (by omega : k ≤ P)
    unfold inB; dsimp only; omega
  · have := hY k (by omega)
    unfold inB; dsimp only; omega
  · obtain ⟨j, rfl⟩ : ∃ j, k = j + 1 := ⟨k - 1, by omega⟩
    have a := Circ.cd_step h2 hPS j
    have b := hm j (by omega)
    simp only [Nat.add_sub_cancel]
    omega
  · simp [Circ.cd]
  · simp [h0]
  · simp only [Nat.add_sub_cancel]; rw [Circ.cd_last h2 hPS]
  · simpa only [Nat.add_sub_cancel] using hl
theorem circ_ok {nm : List UInt8} {S P pr : Nat} (hnm : nameB nm = true) (h2 : 2 ≤ P) (h99 : P ≤ 99) (hPS : P ≤ S) (hS : S ≤ 32768) (hpr : pr ≤ 1073741824) :
    SecOK nm (S : Int) (pr : Int) (P + 1) (fun k => ((Circ.cd S P k : Nat) : Int)) (fun k => ((Circ.ca S P k : Nat) : Int)) (P + 1) (fun k => ((Circ.cd S P k : Nat) : Int)) (fun k => ((Circ.ck S P k : Nat) : Int)) := by
  refine ⟨hnm, by omega, by omega, by omega, by omega, circ_curve h2 h99 hPS hS rfl (fun i hi => ?_) (fun i hi => ?_) ?_, circ_curve h2 h99 hPS hS rfl (fun i hi => ?_) (fun i hi => ?_) ?_⟩
  · show Circ.ca S P i ≤ Circ.ca S P i + _; omega
  · have := (Circ.ca_bound h2 hPS hS hi).1; omega
  · have := (Circ.ca_bound h2 hPS hS (Nat.le_refl P)).1; omega
  · show Circ.ck S P i ≤ max (Circ.ck S P i) _; omega
  · have := Circ.ck_bound h2 hPS hS hi; omega
  · have := Circ.ck_bound h2 hPS hS (Nat.le_refl P); omega

set_option maxRecDepth 100000 in
set_option maxHeartbeats 4000000 in
theorem circles_main (nm : ByteArray) (S P pr : Nat) (w : World) (hn : nm.size ≤ maxLen) (hl : nm.size ≤ 100) (hnm : nameB nm.data.toList = true) (h2 : 2 ≤ P) (h99 : P ≤ 99) (hPS : P ≤ S) (hS : S ≤ 32768) (hpr : pr ≤ 1073741824) :
    Calls Try.prog 5 #[.string nm, .int .i64 (S : Int), .int .i64 (pr : Int), .int .i64 (P : Int)] w fun e w' => e = .returned (.bool true) ∧ Below w.heap.size w w' := by
  have S0 := Lib.hid fun w => cawake w
  have S1 : Hid (∀ w, Calls Try.prog 17 #[.string nm, .int .i64 (S : Int), .int .i64 (pr : Int), .int .i64 (P : Int)] w (CircPost w nm S P pr)) := fun w => ccircle nm S P pr w hn hnm h2 h99 hPS hS hpr
  have S2 : Hid (∀ w, Calls Try.prog 18 #[.string nm, .int .i64 (S : Int), .int .i64 (pr : Int), .int .i64 (P : Int)] w (CircPost w nm S P pr)) := fun w => rcircle nm S P pr w hn hnm h2 h99 hPS hS hpr
  have HOK := Lib.hid (circ_ok (S := S) (P := P) (pr := pr) hnm h2 h99 hPS hS hpr)
  have HP : Hid (1 ≤ P + 1 ∧ P + 1 ≤ 100 ∧ P + 1 ≤ 9223372036854775807) := by show _ ∧ _; omega
  have HN := Lib.hid hn
  have T0 : decide ((100 : Int) < (nm.size : Int)) = false := decide_eq_false (by omega)
  have T0' : decide (100 < nm.size) = false := decide_eq_false (by omega)
  clear hn hl hnm h2 h99 hPS hS hpr
  go_enter Try.func5, Try.ntmps5
  go_wp2_with (first
    | (go_at_call 10; (with_reducible refine (S0.out _).mono ?_); rintro e w8 ⟨rfl, hb8⟩; obtain ⟨hc8, hf8⟩ := bcell hb8; have hz8 := hb8.size; (try simp at hz8); (try simp only [heap_drew, World.heap_drewN] at hz8); (try simp only [heap_drew, World.heap_drewN] at hc8); (try simp only [heap_drew, World.heap_drewN] at hf8); (try have hs1 := Nat.lt_of_succ_le hz8); (try have hs2 := Nat.lt_of_succ_lt hs1); (try have y0 : w.heap.size < w8.heap.size := by omega); (try have y1 : w.heap.size + 1 < w8.heap.size := by omega); (try have y2 : w.heap.size + 2 < w8.heap.size := by omega))
    | (go_at_call 17; (with_reducible refine (S1.out _).mono ?_); rintro e w1 ⟨ga, capA, gc, capC, rfl, lga, lgc, tA, tC, hb1⟩; obtain ⟨hc1, hf1⟩ := bcell hb1; have hz1 := hb1.size; have TA1 := Lib.hid tA; have TC1 := Lib.hid tC; clear tA tC)
    | (go_at_call 18; (with_reducible refine (S2.out _).mono ?_); rintro e w2 ⟨gb, capB, gd, capD, rfl, lgb, lgd, tB, tD, hb2⟩; obtain ⟨hc2, hf2⟩ := bcell hb2; have hz2 := hb2.size; (try simp at hz2); have u12 : w1.heap.size < w2.heap.size := (by omega); have TA2 := Lib.hid ((TA1.out.alloc _).call hb2); have TC2 := Lib.hid ((TC1.out.alloc _).call hb2); have TB2 := Lib.hid tB; have TD2 := Lib.hid tD; clear tB tD TA1 TC1)
    | (go_at_call 19; (with_reducible refine (rsame_sec nm (S : Int) (pr : Int) _ _ _ _ _ ?_ ?_).mono ?_); (focus (intro w' hb; exact rsame_tab ga gb (P + 1) capA capB _ _ w' HP.out.1 HP.out.2.1 ((TA2.out.alloc _).call hb) ((TB2.out.alloc _).call hb))); (focus (intro w' hb; exact rsame_tab gc gd (P + 1) capC capD _ _ w' HP.out.1 HP.out.2.1 ((TC2.out.alloc _).call hb) ((TD2.out.alloc _).call hb))); rintro e w3 ⟨rfl, hb3⟩; obtain ⟨hc3, hf3⟩ := bcell hb3; have hz3 := hb3.size; (try simp at hz3); have u13 : w1.heap.size < w3.heap.size := (by omega); have TA3 := Lib.hid ((TA2.out.alloc _).call hb3); have TC3 := Lib.hid ((TC2.out.alloc _).call hb3))
    | (go_at_call 20; (with_reducible refine (cvalid_one nm (S : Int) (pr : Int) (some ⟨ga, 0, none⟩) (some ⟨gc, 0, none⟩) (P + 1) capA (P + 1) capC w3.heap.size 1 _ _ _ _ _ HN.out ?_ ?_ HOK.out ?_).mono ?_); (focus (exact ⟨HP.out.2.2, .inr ⟨ga, 0, rfl, TA3.out.alloc _⟩⟩)); (focus (exact ⟨HP.out.2.2, .inr ⟨gc, 0, rfl, TC3.out.alloc _⟩⟩)); (focus (exact Blk.new _ _ _)); rintro e w4 ⟨rfl, hb4⟩))
  go_ret
  refine ⟨rfl, ?_⟩
  (repeat' (first | assumption | exact Below.refl _ _ | exact Below.size (by assumption) | (refine Below.setCell ?_ ?_ _) | (refine Below.alloc ?_ ?_ _) | (refine Below.drew ?_) | (refine below_drewN ?_ _) | (refine Below.trans ?_ (Below.mono ‹Below _ _ _› ?_)) | omega | (simp; done) | (simp; omega) | (simp at *; omega)))

theorem circles_err (e : Int) (he : e = 9 ∨ e = 2) (nm : ByteArray) (a b c : Int) (w : World) (hl : nm.size ≤ 100)
    (K1 : ∀ w, Calls Try.prog 17 #[.string nm, .int .i64 a, .int .i64 b, .int .i64 c] w fun e' w' => e' = noSec e ∧ Below w.heap.size w w')
    (K2 : ∀ w, Calls Try.prog 18 #[.string nm, .int .i64 a, .int .i64 b, .int .i64 c] w fun e' w' => e' = noSec e ∧ Below w.heap.size w w') :
    Calls Try.prog 5 #[.string nm, .int .i64 a, .int .i64 b, .int .i64 c] w fun e w' => e = .returned (.bool true) ∧ Below w.heap.size w w' := by
  have S0 := Lib.hid fun w => cawake w
  unfold noSec at K1 K2
  have S1 := Lib.hid K1
  have S2 := Lib.hid K2
  have T0 : decide ((100 : Int) < (nm.size : Int)) = false := decide_eq_false (by omega)
  have T0' : decide (100 < nm.size) = false := decide_eq_false (by omega)
  clear K1 K2 hl
  rcases he with rfl | rfl
  all_goals
    go_enter Try.func5, Try.ntmps5
    go_wp2_with (first
      | (go_at_call 10; (with_reducible refine (S0.out _).mono ?_); rintro e w8 ⟨rfl, hb8⟩; obtain ⟨hc8, hf8⟩ := bcell hb8; have hz8 := hb8.size; (try simp at hz8); (try simp only [heap_drew, World.heap_drewN] at hz8); (try simp only [heap_drew, World.heap_drewN] at hc8); (try simp only [heap_drew, World.heap_drewN] at hf8); (try have hs1 := Nat.lt_of_succ_le hz8); (try have hs2 := Nat.lt_of_succ_lt hs1); (try have y0 : w.heap.size < w8.heap.size := by omega); (try have y1 : w.heap.size + 1 < w8.heap.size := by omega); (try have y2 : w.heap.size + 2 < w8.heap.size := by omega))
      | (go_at_call 17; (with_reducible refine (S1.out _).mono ?_); rintro e w1 ⟨rfl, hb1⟩; obtain ⟨hc1, hf1⟩ := bcell hb1; have hz1 := hb1.size; (try simp at hz1); (try simp only [heap_drew, World.heap_drewN] at hz1); (try simp only [heap_drew, World.heap_drewN] at hc1); (try simp only [heap_drew, World.heap_drewN] at hf1); (try have hs1 := Nat.lt_of_succ_le hz1); (try have hs2 := Nat.lt_of_succ_lt hs1); (try have y0 : w.heap.size < w1.heap.size := by omega); (try have y1 : w.heap.size + 1 < w1.heap.size := by omega); (try have y2 : w.heap.size + 2 < w1.heap.size := by omega))
      | ((go_at_call 18; (with_reducible refine (S2.out _).mono ?_); rintro e w2 ⟨rfl, hb2⟩; obtain ⟨hc2, hf2⟩ := bcell hb2; have hz2 := hb2.size; (try simp at hz2); (try simp only [heap_drew, World.heap_drewN] at hz2); (try simp only [heap_drew, World.heap_drewN] at hc2); (try simp only [heap_drew, World.heap_drewN] at hf2); (try have hs1 := Nat.lt_of_succ_le hz2); (try have hs2 := Nat.lt_of_succ_lt hs1); (try have y0 : w.heap.size < w2.heap.size := by omega); (try have y1 : w.heap.size + 1 < w2.heap.size := by omega); (try have y2 : w.heap.size + 2 < w2.heap.size := by omega)); have u12 : w1.heap.size < w2.heap.size := (by omega))
      | (go_at_call 19; (with_reducible refine (rsame_sec ⟨#[]⟩ 0 0 (.slice none 0 0) (.slice none 0 0) (.slice none 0 0) (.slice none 0 0) _ ?_ ?_).mono ?_); (focus (exact fun w' hb => rsame_nil w')); (focus (exact fun w' hb => rsame_nil w')); rintro e w3 ⟨rfl, hb3⟩; obtain ⟨hc3, hf3⟩ := bcell hb3; have hz3 := hb3.size; (try simp at hz3)))
    go_ret
    refine ⟨rfl, ?_⟩
    (repeat' (first | assumption | exact Below.refl _ _ | exact Below.size (by assumption) | (refine Below.setCell ?_ ?_ _) | (refine Below.alloc ?_ ?_ _) | (refine Below.drew ?_) | (refine below_drewN ?_ _) | (refine Below.trans ?_ (Below.mono ‹Below _ _ _› ?_)) | omega | (simp; done) | (simp; omega) | (simp at *; omega)))

theorem circles_walk (nm : ByteArray) (a b c : Int) (w : World) (hn : nm.size ≤ maxLen) :
    Calls Try.prog 5 #[.string nm, .int .i64 a, .int .i64 b, .int .i64 c] w fun e w' => e = .returned (.bool true) ∧ Below w.heap.size w w' := by
  by_cases hl : nm.size ≤ 100
  · cases hnm : nameB nm.data.toList with
    | false => exact circles_err 9 (.inl rfl) nm a b c w hl (fun w => ccircle_name nm a b c w hn hnm) (fun w => rcircle_name nm a b c w hn hnm)
    | true =>
      by_cases hr : 2 ≤ a ∧ a ≤ 32768 ∧ 0 ≤ b ∧ b ≤ 1073741824 ∧ 2 ≤ c ∧ c ≤ 99 ∧ c ≤ a
      · obtain ⟨S, rfl⟩ : ∃ S : Nat, a = S := ⟨a.toNat, by omega⟩
        obtain ⟨pr, rfl⟩ : ∃ S : Nat, b = S := ⟨b.toNat, by omega⟩
        obtain ⟨P, rfl⟩ : ∃ S : Nat, c = S := ⟨c.toNat, by omega⟩
        exact circles_main nm S P pr w hn hl hnm (by omega) (by omega) (by omega) (by omega) (by omega)
      · exact circles_err 2 (.inr rfl) nm a b c w hl (fun w => ccircle_range nm a b c w hn hnm hr) (fun w => rcircle_range nm a b c w hn hnm hr)
  · have S0 := Lib.hid fun w => cawake w
    have T0 : decide ((100 : Int) < (nm.size : Int)) = true := decide_eq_true (by omega)
    have T0' : decide (100 < nm.size) = true := decide_eq_true (by omega)
    clear hl hn
    go_enter Try.func5, Try.ntmps5
    go_wp2_with (go_at_call 10; (with_reducible refine (S0.out _).mono ?_); rintro e w1 ⟨rfl, hb1⟩; obtain ⟨hc1, hf1⟩ := bcell hb1; have hz1 := hb1.size; (try simp at hz1); (try simp only [heap_drew, World.heap_drewN] at hz1); (try simp only [heap_drew, World.heap_drewN] at hc1); (try simp only [heap_drew, World.heap_drewN] at hf1); (try have hs1 := Nat.lt_of_succ_le hz1); (try have hs2 := Nat.lt_of_succ_lt hs1); (try have y0 : w.heap.size < w1.heap.size := by omega); (try have y1 : w.heap.size + 1 < w1.heap.size := by omega); (try have y2 : w.heap.size + 2 < w1.heap.size := by omega))
    go_ret
    refine ⟨rfl, ?_⟩
    (repeat' (first | assumption | exact Below.refl _ _ | exact Below.size (by assumption) | (refine Below.setCell ?_ ?_ _) | (refine Below.alloc ?_ ?_ _) | (refine Below.drew ?_) | (refine below_drewN ?_ _) | (refine Below.trans ?_ (Below.mono ‹Below _ _ _› ?_)) | omega | (simp; done) | (simp; omega) | (simp at *; omega)))
end Go.Proofs.Ytchapkjloicfnaa

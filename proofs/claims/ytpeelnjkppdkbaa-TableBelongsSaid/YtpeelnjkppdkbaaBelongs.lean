/- The walk of the law TableBelongs. -/
import Derived.Test.YtpeelnjkppdkbaaInverses
namespace Go.Proofs.Ytpeelnjkppdkbaa
open Go.RowKit
set_option linter.unusedVariables false
set_option linter.unusedSimpArgs false

set_option maxRecDepth 100000 in
set_option maxHeartbeats 4000000 in
theorem belongs_good (b off n m c : Nat) (X Y : Nat → Int) (y x x' v1 e1 v2 e2 low high p1 p2 at1 bef at2 aft fst lst : Int) (g k : Bool) (w : World) (hn : n = m + 1) (hv : TabOK n X Y) (ht : TabAt w b off n X Y)
    (hf : fst = X 0) (hl : lst = X m) (hx : max fst (min lst x) = x') (hp1 : IntKind.i64.wrap (v1 - 1) = p1) (hp2 : IntKind.i64.wrap (v2 + 1) = p2)
    (k1 : (e1 = 0 ∧ decide (v1 < fst) = false ∧ decide (lst < v1) = false ∧ decide (y ≤ low) = g ∧ decide (v1 ≤ x') = g ∧ decide (at1 < y) = false ∧ (decide (fst < v1) = false ∨ (decide (fst < v1) = true ∧ decide (y ≤ bef) = false))) ∨ (e1 = 12 ∧ decide (y ≤ Y m) = false))
    (k2 : (e2 = 0 ∧ decide (v2 < fst) = false ∧ decide (lst < v2) = false ∧ decide (high ≤ y) = k ∧ decide (x' ≤ v2) = k ∧ decide (at2 ≤ y) = true ∧ ((v2 == lst) = true ∨ ((v2 == lst) = false ∧ decide (y < aft) = true))) ∨ (e2 = 12 ∧ decide (y < Y 0) = true))
    (h1 : ∀ w, TabAt w b off n X Y → Calls Try.prog 22 #[.slice (some ⟨b, off, none⟩) n c, .int .i64 y] w fun e' w' => e' = .returned (.tuple #[.int .i64 v1, .int .i64 e1]) ∧ Below w.heap.size w w')
    (h3 : ∀ w, TabAt w b off n X Y → Calls Try.prog 23 #[.slice (some ⟨b, off, none⟩) n c, .int .i64 y] w fun e' w' => e' = .returned (.tuple #[.int .i64 v2, .int .i64 e2]) ∧ Below w.heap.size w w')
    (f1 : ∀ w, TabAt w b off n X Y → Calls Try.prog 13 #[.slice (some ⟨b, off, none⟩) n c, .int .i64 x'] w fun e' w' => e' = .returned (.tuple #[.int .i64 low, .int .i64 0]) ∧ Below w.heap.size w w')
    (f2 : ∀ w, TabAt w b off n X Y → Calls Try.prog 14 #[.slice (some ⟨b, off, none⟩) n c, .int .i64 x'] w fun e' w' => e' = .returned (.tuple #[.int .i64 high, .int .i64 0]) ∧ Below w.heap.size w w')
    (f3 : ∀ w, TabAt w b off n X Y → Calls Try.prog 13 #[.slice (some ⟨b, off, none⟩) n c, .int .i64 v1] w fun e' w' => e' = .returned (.tuple #[.int .i64 at1, .int .i64 0]) ∧ Below w.heap.size w w')
    (f4 : ∀ w, TabAt w b off n X Y → Calls Try.prog 13 #[.slice (some ⟨b, off, none⟩) n c, .int .i64 p1] w fun e' w' => e' = .returned (.tuple #[.int .i64 bef, .int .i64 0]) ∧ Below w.heap.size w w')
    (f5 : ∀ w, TabAt w b off n X Y → Calls Try.prog 14 #[.slice (some ⟨b, off, none⟩) n c, .int .i64 v2] w fun e' w' => e' = .returned (.tuple #[.int .i64 at2, .int .i64 0]) ∧ Below w.heap.size w w')
    (f6 : ∀ w, TabAt w b off n X Y → Calls Try.prog 14 #[.slice (some ⟨b, off, none⟩) n c, .int .i64 p2] w fun e' w' => e' = .returned (.tuple #[.int .i64 aft, .int .i64 0]) ∧ Below w.heap.size w w') :
    Calls Try.prog 6 #[.slice (some ⟨b, off, none⟩) n c, .int .i64 y, .int .i64 x] w fun e w' => e = .returned (.bool true) ∧ Below w.heap.size w w' := by
  have SA := Lib.hid fun w => cawake w
  have SV := Lib.hid fun w ht => rvalid b off n c X Y w hv.1 hv.2.1 ht
  have tv := tabB_true hv
  have S1 := Lib.hid h1
  have S3 := Lib.hid h3
  have F1 := Lib.hid f1
  have F2 := Lib.hid f2
  have F3 := Lib.hid f3
  have F4 := Lib.hid f4
  have F5 := Lib.hid f5
  have F6 := Lib.hid f6
  have HT := Lib.hid ht
  have hb := ht.1
  have j0 : 0 < n := by have := hv.1; omega
  have jm : m < n := by omega
  have em : IntKind.i64.wrap ((n : Int) - 1) = (m : Int) := by have := hv.2.1; rw [IntKind.wrap_i64]; omega
  have i0 : (0 : Int) < (n : Int) := by omega
  have i1 : (0 : Int) ≤ (m : Int) := by omega
  have i2 : (m : Int) < (n : Int) := by omega
  have HX0 : Hid (∀ w, TabAt w b off n X Y → w.cell? ⟨b, off, none⟩ = some (.int .i64 fst) ∧ w.cell? ⟨b, off + m * 2, none⟩ = some (.int .i64 lst) ∧ w.cell? ⟨b, off + 1, none⟩ = some (.int .i64 (Y 0)) ∧ w.cell? ⟨b, off + m * 2 + 1, none⟩ = some (.int .i64 (Y m))) := by
    intro w h
    have a := h.2 0 j0
    have b := h.2 m jm
    simp only [Nat.zero_mul, Nat.add_zero] at a
    rw [hf, hl]
    exact ⟨a.1, b.1, a.2, b.2⟩
  clear h1 h3 f1 f2 f3 f4 f5 f6 hv ht hn hf hl j0 jm
  rcases k1 with ⟨rfl, a1, a2, a3, a4, a5, a6 | ⟨a6, a7⟩⟩ | ⟨rfl, a1⟩ <;> rcases k2 with ⟨rfl, b1, b2, b3, b4, b5, b6 | ⟨b6, b7⟩⟩ | ⟨rfl, b1⟩
  all_goals
    go_enter Try.func6, Try.ntmps6
    go_upto_region 5 with (first | (go_at_call 10; (with_reducible refine (SA.out _).mono ?_); rintro e w1 ⟨rfl, hb1⟩; obtain ⟨hc1, hf1⟩ := bcell hb1; have hz1 := hb1.size; (try simp at hz1); (try simp only [heap_drew, World.heap_drewN] at hz1); (try simp only [heap_drew, World.heap_drewN] at hc1); (try simp only [heap_drew, World.heap_drewN] at hf1); (try have hs1 := Nat.lt_of_succ_le hz1); (try have hs2 := Nat.lt_of_succ_lt hs1); (try have y0 : w.heap.size < w1.heap.size := by omega); (try have y1 : w.heap.size + 1 < w1.heap.size := by omega); (try have y2 : w.heap.size + 2 < w1.heap.size := by omega)) | (go_at_call 12; (with_reducible refine (SV.out _ ?_).mono ?_); (focus (exact HT.out.below (by (repeat' (first | assumption | exact Below.refl _ _ | exact Below.size (by assumption) | (refine Below.setCell ?_ ?_ _) | (refine Below.alloc ?_ ?_ _) | (refine Below.drew ?_) | (refine below_drewN ?_ _) | (refine Below.trans ?_ (Below.mono ‹Below _ _ _› ?_)) | omega | (simp; done) | (simp; omega) | (simp at *; omega)))) hb)); rintro e w2 ⟨rfl, hb2⟩; obtain ⟨hc2, hf2⟩ := bcell hb2; have hz2 := hb2.size; (try simp at hz2); (try simp only [heap_drew, World.heap_drewN] at hz2); (try simp only [heap_drew, World.heap_drewN] at hc2); (try simp only [heap_drew, World.heap_drewN] at hf2); (try have hs1 := Nat.lt_of_succ_le hz2); (try have hs2 := Nat.lt_of_succ_lt hs1); (try have y0 : w.heap.size < w2.heap.size := by omega); (try have y1 : w.heap.size + 1 < w2.heap.size := by omega); (try have y2 : w.heap.size + 2 < w2.heap.size := by omega)))
    have hbw2 : Below w.heap.size w w2 := by (repeat' (first | assumption | exact Below.refl _ _ | exact Below.size (by assumption) | (refine Below.setCell ?_ ?_ _) | (refine Below.alloc ?_ ?_ _) | (refine Below.drew ?_) | (refine below_drewN ?_ _) | (refine Below.trans ?_ (Below.mono ‹Below _ _ _› ?_)) | omega | (simp; done) | (simp; omega) | (simp at *; omega)))
    have HBW2 := Lib.hid hbw2
    obtain ⟨x1, x2, x3, x4⟩ := HX0.out w2 (HT.out.below hbw2 hb)
    have yb : b < w2.heap.size := Nat.lt_of_lt_of_le hb hbw2.size
    clear hc1 hf1 hb1 hc2 hf2 hb2 hbw2
    go_quiet (fail)
    clear x1 x2 x3 x4 yb
    go_upto_region 13 with (first | ((go_at_call 22; (with_reducible refine (S1.out _ ?_).mono ?_); (focus (exact HT.out.below (below_drewN HBW2.out _) hb)); rintro e w3 ⟨rfl, hb3⟩; obtain ⟨hc3, hf3⟩ := bcell hb3; have hz3 := hb3.size; (try simp at hz3); (try simp only [heap_drew, World.heap_drewN] at hz3); (try simp only [heap_drew, World.heap_drewN] at hc3); (try simp only [heap_drew, World.heap_drewN] at hf3); (try have hs1 := Nat.lt_of_succ_le hz3); (try have hs2 := Nat.lt_of_succ_lt hs1); (try have y0 : w.heap.size < w3.heap.size := by omega); (try have y1 : w.heap.size + 1 < w3.heap.size := by omega); (try have y2 : w.heap.size + 2 < w3.heap.size := by omega)); have HBW3 := Lib.hid ((below_drewN HBW2.out _).trans (hb3.mono (by have := HBW2.out.size; simp; omega)) : Below w.heap.size w w3); clear hc3 hf3 hb3) | ((go_at_call 23; (with_reducible refine (S3.out _ ?_).mono ?_); (focus (exact HT.out.below HBW3.out hb)); rintro e w4 ⟨rfl, hb4⟩; obtain ⟨hc4, hf4⟩ := bcell hb4; have hz4 := hb4.size; (try simp at hz4); (try simp only [heap_drew, World.heap_drewN] at hz4); (try simp only [heap_drew, World.heap_drewN] at hc4); (try simp only [heap_drew, World.heap_drewN] at hf4); (try have hs1 := Nat.lt_of_succ_le hz4); (try have hs2 := Nat.lt_of_succ_lt hs1); (try have y0 : w.heap.size < w4.heap.size := by omega); (try have y1 : w.heap.size + 1 < w4.heap.size := by omega); (try have y2 : w.heap.size + 2 < w4.heap.size := by omega)); have HBW4 := Lib.hid (below_step HBW3.out hb4); clear hc4 hf4 hb4) | ((go_at_call 13; (with_reducible refine (F1.out _ ?_).mono ?_); (focus (exact HT.out.below HBW4.out hb)); rintro e w5 ⟨rfl, hb5⟩; obtain ⟨hc5, hf5⟩ := bcell hb5; have hz5 := hb5.size; (try simp at hz5); (try simp only [heap_drew, World.heap_drewN] at hz5); (try simp only [heap_drew, World.heap_drewN] at hc5); (try simp only [heap_drew, World.heap_drewN] at hf5); (try have hs1 := Nat.lt_of_succ_le hz5); (try have hs2 := Nat.lt_of_succ_lt hs1); (try have y0 : w.heap.size < w5.heap.size := by omega); (try have y1 : w.heap.size + 1 < w5.heap.size := by omega); (try have y2 : w.heap.size + 2 < w5.heap.size := by omega)); have HBW5 := Lib.hid (below_step HBW4.out hb5); clear hc5 hf5 hb5) | ((go_at_call 14; (with_reducible refine (F2.out _ ?_).mono ?_); (focus (exact HT.out.below HBW5.out hb)); rintro e w6 ⟨rfl, hb6⟩; obtain ⟨hc6, hf6⟩ := bcell hb6; have hz6 := hb6.size; (try simp at hz6); (try simp only [heap_drew, World.heap_drewN] at hz6); (try simp only [heap_drew, World.heap_drewN] at hc6); (try simp only [heap_drew, World.heap_drewN] at hf6); (try have hs1 := Nat.lt_of_succ_le hz6); (try have hs2 := Nat.lt_of_succ_lt hs1); (try have y0 : w.heap.size < w6.heap.size := by omega); (try have y1 : w.heap.size + 1 < w6.heap.size := by omega); (try have y2 : w.heap.size + 2 < w6.heap.size := by omega)); have HBW6 := Lib.hid (below_step HBW5.out hb6); clear hc6 hf6 hb6))
    have d6 := HX0.out w6 (HT.out.below HBW6.out hb)
    obtain ⟨x1, x2, x3, x4⟩ := d6
    have yb : b < w6.heap.size := Nat.lt_of_lt_of_le hb HBW6.out.size
    go_upto_region 25 with (first
      | ((go_at_call 13; (with_reducible refine (F3.out _ ?_).mono ?_); (focus (exact HT.out.below HBW6.out hb)); rintro e w7 ⟨rfl, hb7⟩; obtain ⟨hc7, hf7⟩ := bcell hb7; have hz7 := hb7.size; (try simp at hz7); (try simp only [heap_drew, World.heap_drewN] at hz7); (try simp only [heap_drew, World.heap_drewN] at hc7); (try simp only [heap_drew, World.heap_drewN] at hf7); (try have hs1 := Nat.lt_of_succ_le hz7); (try have hs2 := Nat.lt_of_succ_lt hs1); (try have y0 : w.heap.size < w7.heap.size := by omega); (try have y1 : w.heap.size + 1 < w7.heap.size := by omega); (try have y2 : w.heap.size + 2 < w7.heap.size := by omega))
         have HBW7 := Lib.hid (below_step HBW6.out hb7)
         clear hc7 hf7 hb7)
      | ((go_at_call 13; (with_reducible refine (F4.out _ ?_).mono ?_); (focus (exact HT.out.below HBW7.out hb)); rintro e w8 ⟨rfl, hb8⟩; obtain ⟨hc8, hf8⟩ := bcell hb8; have hz8 := hb8.size; (try simp at hz8); (try simp only [heap_drew, World.heap_drewN] at hz8); (try simp only [heap_drew, World.heap_drewN] at hc8); (try simp only [heap_drew, World.heap_drewN] at hf8); (try have hs1 := Nat.lt_of_succ_le hz8); (try have hs2 := Nat.lt_of_succ_lt hs1); (try have y0 : w.heap.size < w8.heap.size := by omega); (try have y1 : w.heap.size + 1 < w8.heap.size := by omega); (try have y2 : w.heap.size + 2 < w8.heap.size := by omega))
         have HBW8 := Lib.hid (below_step HBW7.out hb8)
         have d8 := HX0.out w8 (HT.out.below HBW8.out hb)
         obtain ⟨z1, z2, z3, z4⟩ := d8
         have yb8 : b < w8.heap.size := Nat.lt_of_lt_of_le hb HBW8.out.size
         clear hc8 hf8 hb8))
    first
    | have HBC := HBW8
    | have HBC := HBW6
    go_wp2_with (first
      | ((go_at_call 14; (with_reducible refine (F5.out _ ?_).mono ?_); (focus (exact HT.out.below HBC.out hb)); rintro e w9 ⟨rfl, hb9⟩; obtain ⟨hc9, hf9⟩ := bcell hb9; have hz9 := hb9.size; (try simp at hz9); (try simp only [heap_drew, World.heap_drewN] at hz9); (try simp only [heap_drew, World.heap_drewN] at hc9); (try simp only [heap_drew, World.heap_drewN] at hf9); (try have hs1 := Nat.lt_of_succ_le hz9); (try have hs2 := Nat.lt_of_succ_lt hs1); (try have y0 : w.heap.size < w9.heap.size := by omega); (try have y1 : w.heap.size + 1 < w9.heap.size := by omega); (try have y2 : w.heap.size + 2 < w9.heap.size := by omega))
         have HBW9 := Lib.hid (below_step HBC.out hb9)
         clear hc9 hf9 hb9)
      | ((go_at_call 14; (with_reducible refine (F6.out _ ?_).mono ?_); (focus (exact HT.out.below HBW9.out hb)); rintro e w10 ⟨rfl, hb10⟩; obtain ⟨hc10, hf10⟩ := bcell hb10; have hz10 := hb10.size; (try simp at hz10); (try simp only [heap_drew, World.heap_drewN] at hz10); (try simp only [heap_drew, World.heap_drewN] at hc10); (try simp only [heap_drew, World.heap_drewN] at hf10); (try have hs1 := Nat.lt_of_succ_le hz10); (try have hs2 := Nat.lt_of_succ_lt hs1); (try have y0 : w.heap.size < w10.heap.size := by omega); (try have y1 : w.heap.size + 1 < w10.heap.size := by omega); (try have y2 : w.heap.size + 2 < w10.heap.size := by omega))
         have HBW10 := Lib.hid (below_step HBW9.out hb10)
         clear hc10 hf10 hb10))
    go_ret
    first
    | exact ⟨by simp, HBW10.out⟩
    | exact ⟨by simp, HBC.out⟩
    | exact ⟨by simp [*], HBC.out⟩
set_option maxRecDepth 100000 in
set_option maxHeartbeats 1000000 in
theorem belongs_walk (A : Option Addr) (n c : Nat) (X Y : Nat → Int) (y x : Int) (w : World) (hT : TabIn w A n X Y) :
    Calls Try.prog 6 #[.slice A n c, .int .i64 y, .int .i64 x] w fun e w' => e = .returned (.bool true) ∧ Below w.heap.size w w' := by
  by_cases hok : TabOK n X Y
  · rcases hT.2 with h0 | ⟨b, off, rfl, ht⟩
    · have := hok.1; omega
    · obtain ⟨m, rfl⟩ : ∃ m, n = m + 1 := ⟨n - 1, by have := hok.1; omega⟩
      have ha := asc_of hok
      have hXm := (ha.mono (Nat.le_refl m) (Nat.zero_le m)).1
      have g3 := in_of hok (by omega : 0 < m + 1)
      have g4 := in_of hok (by omega : m < m + 1)
      obtain ⟨v1, e1, k1, h1⟩ := least_both m X Y y hok
      obtain ⟨v2, e2, k2, h2⟩ := most_both m X Y y hok
      obtain ⟨x', hx'⟩ : ∃ z, max (X 0) (min (X m) x) = z := ⟨_, rfl⟩
      have hx1 : X 0 ≤ x' := by omega
      have hx2 : x' ≤ X m := by omega
      have bv1 : -1125899906842624 ≤ v1 ∧ v1 ≤ 1125899906842624 := by
        rcases k1 with ⟨h, _⟩ | ⟨_, rfl, _⟩
        · have := Val.least_in ha h; omega
        · omega
      have bv2 : -1125899906842624 ≤ v2 ∧ v2 ≤ 1125899906842624 := by
        rcases k2 with ⟨h, _⟩ | ⟨_, rfl, _⟩
        · have := Val.most_in ha h; omega
        · omega
      refine belongs_good b off (m + 1) m c X Y y x x' v1 e1 v2 e2 (Val.val X Y m x') (Val.up X Y m x') (v1 - 1) (v2 + 1) (Val.val X Y m v1) (Val.val X Y m (v1 - 1)) (Val.up X Y m v2) (Val.up X Y m (v2 + 1)) (X 0) (X m) (decide (y ≤ Val.val X Y m x')) (decide (Val.up X Y m x' ≤ y)) w rfl hok ht rfl rfl hx' (wrap_id (by omega) (by omega)) (wrap_id (by omega) (by omega)) ?_ ?_
        (fun w h => (h1 b off c w h).1) (fun w h => (h2 b off c w h).1) (fun w h => tfloor b off m c X Y _ hok w h) (fun w h => tceil b off m c X Y _ hok w h) (fun w h => tfloor b off m c X Y _ hok w h) (fun w h => tfloor b off m c X Y _ hok w h) (fun w h => tceil b off m c X Y _ hok w h) (fun w h => tceil b off m c X Y _ hok w h)
      · rcases k1 with ⟨h, he⟩ | ⟨h, _, he⟩
        · have hin := Val.least_in ha h
          refine .inl ⟨he, decide_eq_false (by omega), decide_eq_false (by omega), rfl, decide_eq_decide.2 (Val.least_iff ha h hx1).symm, decide_eq_false (by have := (Val.least_iff ha h hin.1).2 (Int.le_refl _); omega), ?_⟩
          by_cases hf : X 0 < v1
          · refine .inr ⟨decide_eq_true hf, decide_eq_false fun hy => ?_⟩
            have := (Val.least_iff ha h (by omega : X 0 ≤ v1 - 1)).1 hy
            omega
          · exact .inl (decide_eq_false hf)
        · exact .inr ⟨he, decide_eq_false (by omega)⟩
      · rcases k2 with ⟨h, he⟩ | ⟨h, _, he⟩
        · have hin := Val.most_in ha h
          refine .inl ⟨he, decide_eq_false (by omega), decide_eq_false (by omega), rfl, decide_eq_decide.2 (Val.most_iff ha h hx2).symm, decide_eq_true ((Val.most_iff ha h hin.2).2 (Int.le_refl _)), ?_⟩
          by_cases hf : v2 = X m
          · exact .inl (by simp [hf])
          · refine .inr ⟨by simp [hf], decide_eq_true ?_⟩
            apply Classical.byContradiction
            intro hy
            have := (Val.most_iff ha h (by omega : v2 + 1 ≤ X m)).1 (by omega)
            omega
        · exact .inr ⟨he, decide_eq_true h⟩
  · have SA := Lib.hid fun w => cawake w
    have HT := Lib.hid hT
    have SV := Lib.hid fun w h => rvalid_any A n c X Y w h
    have tv := tabB_false hok
    clear hT hok
    go_enter Try.func6, Try.ntmps6
    go_wp2_with (first | (go_at_call 10; (with_reducible refine (SA.out _).mono ?_); rintro e w1 ⟨rfl, hb1⟩; obtain ⟨hc1, hf1⟩ := bcell hb1; have hz1 := hb1.size; (try simp at hz1); (try simp only [heap_drew, World.heap_drewN] at hz1); (try simp only [heap_drew, World.heap_drewN] at hc1); (try simp only [heap_drew, World.heap_drewN] at hf1); (try have hs1 := Nat.lt_of_succ_le hz1); (try have hs2 := Nat.lt_of_succ_lt hs1); (try have y0 : w.heap.size < w1.heap.size := by omega); (try have y1 : w.heap.size + 1 < w1.heap.size := by omega); (try have y2 : w.heap.size + 2 < w1.heap.size := by omega)) | (go_at_call 12; (with_reducible refine (SV.out _ ?_).mono ?_); (focus (exact HT.out.below (Nat.le_refl _) (by (repeat' (first | assumption | exact Below.refl _ _ | exact Below.size (by assumption) | (refine Below.setCell ?_ ?_ _) | (refine Below.alloc ?_ ?_ _) | (refine Below.drew ?_) | (refine below_drewN ?_ _) | (refine Below.trans ?_ (Below.mono ‹Below _ _ _› ?_)) | omega | (simp; done) | (simp; omega) | (simp at *; omega)))))); rintro e w2 ⟨rfl, hb2⟩; obtain ⟨hc2, hf2⟩ := bcell hb2; have hz2 := hb2.size; (try simp at hz2); (try simp only [heap_drew, World.heap_drewN] at hz2); (try simp only [heap_drew, World.heap_drewN] at hc2); (try simp only [heap_drew, World.heap_drewN] at hf2); (try have hs1 := Nat.lt_of_succ_le hz2); (try have hs2 := Nat.lt_of_succ_lt hs1); (try have y0 : w.heap.size < w2.heap.size := by omega); (try have y1 : w.heap.size + 1 < w2.heap.size := by omega); (try have y2 : w.heap.size + 2 < w2.heap.size := by omega)))
    go_ret
    refine ⟨rfl, ?_⟩
    (repeat' (first | assumption | exact Below.refl _ _ | exact Below.size (by assumption) | (refine Below.setCell ?_ ?_ _) | (refine Below.alloc ?_ ?_ _) | (refine Below.drew ?_) | (refine below_drewN ?_ _) | (refine Below.trans ?_ (Below.mono ‹Below _ _ _› ?_)) | omega | (simp; done) | (simp; omega) | (simp at *; omega)))
end Go.Proofs.Ytpeelnjkppdkbaa

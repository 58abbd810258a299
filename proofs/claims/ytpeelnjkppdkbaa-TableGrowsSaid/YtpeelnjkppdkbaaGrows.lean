/- The walk of the law TableGrows. -/
import Derived.Test.YtpeelnjkppdkbaaGrowsP
import Derived.Test.YtpeelnjkppdkbaaRatio
import Derived.Test.YtpeelnjkppdkbaaValues
namespace Go.Proofs.Ytpeelnjkppdkbaa
open Go.RowKit
set_option linter.unusedVariables false
set_option linter.unusedSimpArgs false

set_option maxRecDepth 100000 in
set_option maxHeartbeats 4000000 in
theorem grows_good (b off n m c M T M1 R : Nat) (X Y : Nat → Int) (x y mid va vb vc ud uy n1 n2 e1 n3 n4 e2 : Int) (w : World) (hn : n = m + 1) (hv : TabOK n X Y) (ht : TabAt w b off n X Y)
    (bx : -2251799813685248 ≤ x ∧ x ≤ 2251799813685248) (hM : M ≤ 4294967295) (hT : T ≤ 4294967295) (hM1 : M1 = M + 1) (hR : R = T % M1) (hy : y = x + (M : Int)) (hmid : mid = x + (R : Int))
    (b1 : va ≤ vb) (b2 : vb ≤ vc) (b3 : vb ≤ ud) (b4 : ud ≤ vb + 1) (b5 : ud ≤ uy) (b6 : Y 0 ≤ va) (b7 : vc ≤ Y m) (b8 : inB vb)
    (f1 : ∀ w, TabAt w b off n X Y → Calls Try.prog 13 #[.slice (some ⟨b, off, none⟩) n c, .int .i64 x] w fun e' w' => e' = .returned (.tuple #[.int .i64 va, .int .i64 0]) ∧ Below w.heap.size w w')
    (f2 : ∀ w, TabAt w b off n X Y → Calls Try.prog 13 #[.slice (some ⟨b, off, none⟩) n c, .int .i64 mid] w fun e' w' => e' = .returned (.tuple #[.int .i64 vb, .int .i64 0]) ∧ Below w.heap.size w w')
    (f3 : ∀ w, TabAt w b off n X Y → Calls Try.prog 13 #[.slice (some ⟨b, off, none⟩) n c, .int .i64 y] w fun e' w' => e' = .returned (.tuple #[.int .i64 vc, .int .i64 0]) ∧ Below w.heap.size w w')
    (f4 : ∀ w, TabAt w b off n X Y → Calls Try.prog 14 #[.slice (some ⟨b, off, none⟩) n c, .int .i64 mid] w fun e' w' => e' = .returned (.tuple #[.int .i64 ud, .int .i64 0]) ∧ Below w.heap.size w w')
    (f5 : ∀ w, TabAt w b off n X Y → Calls Try.prog 20 #[.slice (some ⟨b, off, none⟩) n c, .agg #[.int .i64 x, .int .i64 y]] w fun e' w' => e' = .returned (.tuple #[.agg #[.int .i64 va, .int .i64 uy], .int .i64 0]) ∧ Below w.heap.size w w')
    (f6 : ∀ w, TabAt w b off n X Y → Calls Try.prog 15 #[.slice (some ⟨b, off, none⟩) n c, .int .i64 x] w fun e' w' => e' = .returned (.tuple #[.agg #[.int .i64 n1, .int .i64 n2], .int .i64 e1]) ∧ Below w.heap.size w w')
    (f7 : ∀ w, TabAt w b off n X Y → Calls Try.prog 15 #[.slice (some ⟨b, off, none⟩) n c, .int .i64 y] w fun e' w' => e' = .returned (.tuple #[.agg #[.int .i64 n3, .int .i64 n4], .int .i64 e2]) ∧ Below w.heap.size w w')
    (hk : (e1 = 0 ∧ e2 = 0 ∧ ∃ s : Int, s ≤ 0 ∧ (∀ w, Calls Try.prog 31 #[.agg #[.int .i64 n1, .int .i64 n2], .agg #[.int .i64 n3, .int .i64 n4]] w fun e' w' => e' = .returned (.tuple #[.int .i64 s, .int .i64 0]) ∧ Below w.heap.size w w') ∧
        (∀ w, Calls Try.prog 32 #[.agg #[.int .i64 n1, .int .i64 n2]] w fun e' w' => e' = .returned (.tuple #[.int .i64 va, .int .i64 0]) ∧ Below w.heap.size w w')) ∨ (e1 = 5 ∧ e2 = 0) ∨ (e1 = 5 ∧ e2 = 5) ∨ (e1 = 0 ∧ e2 = 5)) :
    Calls Try.prog 9 #[.slice (some ⟨b, off, none⟩) n c, .int .i64 x, .int .u32 (M : Int), .int .u32 (T : Int)] w fun e w' => e = .returned (.bool true) ∧ Below w.heap.size w w' := by
  have SA := Lib.hid fun w => cawake w
  have SV := Lib.hid fun w ht => rvalid b off n c X Y w hv.1 hv.2.1 ht
  have tv := tabB_true hv
  have F1 := Lib.hid f1
  have F2 := Lib.hid f2
  have F3 := Lib.hid f3
  have F4 := Lib.hid f4
  have F5 := Lib.hid f5
  have F6 := Lib.hid f6
  have F7 := Lib.hid f7
  have HT := Lib.hid ht
  have hb := ht.1
  have j0 : 0 < n := by have := hv.1; omega
  have jm : m < n := by omega
  have em : IntKind.i64.wrap ((n : Int) - 1) = (m : Int) := by have := hv.2.1; rw [IntKind.wrap_i64]; omega
  have i0 : (0 : Int) < (n : Int) := by omega
  have i1 : (0 : Int) ≤ (m : Int) := by omega
  have i2 : (m : Int) < (n : Int) := by omega
  have HX0 : Hid (∀ w, TabAt w b off n X Y → w.cell? ⟨b, off + 1, none⟩ = some (.int .i64 (Y 0)) ∧ w.cell? ⟨b, off + m * 2 + 1, none⟩ = some (.int .i64 (Y m))) := by
    intro w h
    have a := h.2 0 j0
    have b := h.2 m jm
    simp only [Nat.zero_mul, Nat.add_zero] at a
    exact ⟨a.2, b.2⟩
  have hRl : R < M1 := by rw [hR]; exact Nat.mod_lt _ (by omega)
  have r1 := tmod_nat T M1
  rw [← hR] at r1
  have u1 : IntKind.i64.wrap (M : Int) = (M : Int) := by rw [IntKind.wrap_i64]; omega
  have u2 : IntKind.i64.wrap (T : Int) = (T : Int) := by rw [IntKind.wrap_i64]; omega
  have u3 : IntKind.i64.wrap ((M : Int) + 1) = (M1 : Int) := by rw [IntKind.wrap_i64]; omega
  have u4 : IntKind.i64.wrap (x + (M : Int)) = y := by rw [IntKind.wrap_i64]; omega
  have u5 : IntKind.i64.wrap (R : Int) = (R : Int) := by rw [IntKind.wrap_i64]; omega
  have u6 : IntKind.i64.wrap (x + (R : Int)) = mid := by rw [IntKind.wrap_i64]; omega
  have u7 : ((M1 : Int) == 0) = false := by simp <;> omega
  have u8 : ¬ (M1 : Int) = 0 := by omega
  obtain ⟨vb1, hvb1⟩ : ∃ z, z = vb + 1 := ⟨_, rfl⟩
  have u9 : IntKind.i64.wrap (vb + 1) = vb1 := by unfold inB at b8; rw [IntKind.wrap_i64]; omega
  have t1 : decide (x < -2251799813685248) = false := decide_eq_false (by omega)
  have t2 : decide ((2251799813685248 : Int) < x) = false := decide_eq_false (by omega)
  have t3 : decide (vb < va) = false := decide_eq_false (by omega)
  have t4 : decide (vc < vb) = false := decide_eq_false (by omega)
  have t5 : decide (ud < vb) = false := decide_eq_false (by omega)
  have t6 : decide (vb1 < ud) = false := decide_eq_false (by omega)
  have t7 : decide (uy < ud) = false := decide_eq_false (by omega)
  have t8 : decide (va < Y 0) = false := decide_eq_false (by omega)
  have t9 : decide (Y m < vc) = false := decide_eq_false (by omega)
  clear f1 f2 f3 f4 f5 f6 f7 hv ht hn bx hM hT hM1 hR hy hmid b1 b2 b3 b4 b5 b6 b7 b8 j0 jm hRl hvb1
  go_enter Try.func9, Try.ntmps9
  go_upto_region 12 with (first | ((go_at_call 10; (with_reducible refine (SA.out _).mono ?_); rintro e w1 ⟨rfl, hb1⟩; obtain ⟨hc1, hf1⟩ := bcell hb1; have hz1 := hb1.size; (try simp at hz1); (try simp only [heap_drew, World.heap_drewN] at hz1); (try simp only [heap_drew, World.heap_drewN] at hc1); (try simp only [heap_drew, World.heap_drewN] at hf1); (try have hs1 := Nat.lt_of_succ_le hz1); (try have hs2 := Nat.lt_of_succ_lt hs1); (try have y0 : w.heap.size < w1.heap.size := by omega); (try have y1 : w.heap.size + 1 < w1.heap.size := by omega); (try have y2 : w.heap.size + 2 < w1.heap.size := by omega)); have HW1 := Lib.hid hb1; clear hc1 hf1 hb1) | ((go_at_call 12; (with_reducible refine (SV.out _ ?_).mono ?_); (focus (exact HT.out.below HW1.out hb)); rintro e w2 ⟨rfl, hb2⟩; obtain ⟨hc2, hf2⟩ := bcell hb2; have hz2 := hb2.size; (try simp at hz2); (try simp only [heap_drew, World.heap_drewN] at hz2); (try simp only [heap_drew, World.heap_drewN] at hc2); (try simp only [heap_drew, World.heap_drewN] at hf2); (try have hs1 := Nat.lt_of_succ_le hz2); (try have hs2 := Nat.lt_of_succ_lt hs1); (try have y0 : w.heap.size < w2.heap.size := by omega); (try have y1 : w.heap.size + 1 < w2.heap.size := by omega); (try have y2 : w.heap.size + 2 < w2.heap.size := by omega)); have HW2 := Lib.hid (below_step HW1.out hb2); clear hc2 hf2 hb2) | ((go_at_call 13; (with_reducible refine (F1.out _ ?_).mono ?_); (focus (exact HT.out.below HW2.out hb)); rintro e w3 ⟨rfl, hb3⟩; obtain ⟨hc3, hf3⟩ := bcell hb3; have hz3 := hb3.size; (try simp at hz3); (try simp only [heap_drew, World.heap_drewN] at hz3); (try simp only [heap_drew, World.heap_drewN] at hc3); (try simp only [heap_drew, World.heap_drewN] at hf3); (try have hs1 := Nat.lt_of_succ_le hz3); (try have hs2 := Nat.lt_of_succ_lt hs1); (try have y0 : w.heap.size < w3.heap.size := by omega); (try have y1 : w.heap.size + 1 < w3.heap.size := by omega); (try have y2 : w.heap.size + 2 < w3.heap.size := by omega)); have HW3 := Lib.hid (below_step HW2.out hb3); clear hc3 hf3 hb3) | ((go_at_call 13; (with_reducible refine (F2.out _ ?_).mono ?_); (focus (exact HT.out.below HW3.out hb)); rintro e w4 ⟨rfl, hb4⟩; obtain ⟨hc4, hf4⟩ := bcell hb4; have hz4 := hb4.size; (try simp at hz4); (try simp only [heap_drew, World.heap_drewN] at hz4); (try simp only [heap_drew, World.heap_drewN] at hc4); (try simp only [heap_drew, World.heap_drewN] at hf4); (try have hs1 := Nat.lt_of_succ_le hz4); (try have hs2 := Nat.lt_of_succ_lt hs1); (try have y0 : w.heap.size < w4.heap.size := by omega); (try have y1 : w.heap.size + 1 < w4.heap.size := by omega); (try have y2 : w.heap.size + 2 < w4.heap.size := by omega)); have HW4 := Lib.hid (below_step HW3.out hb4); clear hc4 hf4 hb4) | ((go_at_call 13; (with_reducible refine (F3.out _ ?_).mono ?_); (focus (exact HT.out.below HW4.out hb)); rintro e w5 ⟨rfl, hb5⟩; obtain ⟨hc5, hf5⟩ := bcell hb5; have hz5 := hb5.size; (try simp at hz5); (try simp only [heap_drew, World.heap_drewN] at hz5); (try simp only [heap_drew, World.heap_drewN] at hc5); (try simp only [heap_drew, World.heap_drewN] at hf5); (try have hs1 := Nat.lt_of_succ_le hz5); (try have hs2 := Nat.lt_of_succ_lt hs1); (try have y0 : w.heap.size < w5.heap.size := by omega); (try have y1 : w.heap.size + 1 < w5.heap.size := by omega); (try have y2 : w.heap.size + 2 < w5.heap.size := by omega)); have HW5 := Lib.hid (below_step HW4.out hb5); clear hc5 hf5 hb5) | ((go_at_call 14; (with_reducible refine (F4.out _ ?_).mono ?_); (focus (exact HT.out.below HW5.out hb)); rintro e w6 ⟨rfl, hb6⟩; obtain ⟨hc6, hf6⟩ := bcell hb6; have hz6 := hb6.size; (try simp at hz6); (try simp only [heap_drew, World.heap_drewN] at hz6); (try simp only [heap_drew, World.heap_drewN] at hc6); (try simp only [heap_drew, World.heap_drewN] at hf6); (try have hs1 := Nat.lt_of_succ_le hz6); (try have hs2 := Nat.lt_of_succ_lt hs1); (try have y0 : w.heap.size < w6.heap.size := by omega); (try have y1 : w.heap.size + 1 < w6.heap.size := by omega); (try have y2 : w.heap.size + 2 < w6.heap.size := by omega)); have HW6 := Lib.hid (below_step HW5.out hb6); clear hc6 hf6 hb6) | ((go_at_call 20; (with_reducible refine (F5.out _ ?_).mono ?_); (focus (exact HT.out.below HW6.out hb)); rintro e w7 ⟨rfl, hb7⟩; obtain ⟨hc7, hf7⟩ := bcell hb7; have hz7 := hb7.size; (try simp at hz7); (try simp only [heap_drew, World.heap_drewN] at hz7); (try simp only [heap_drew, World.heap_drewN] at hc7); (try simp only [heap_drew, World.heap_drewN] at hf7); (try have hs1 := Nat.lt_of_succ_le hz7); (try have hs2 := Nat.lt_of_succ_lt hs1); (try have y0 : w.heap.size < w7.heap.size := by omega); (try have y1 : w.heap.size + 1 < w7.heap.size := by omega); (try have y2 : w.heap.size + 2 < w7.heap.size := by omega)); have HW7 := Lib.hid (below_step HW6.out hb7); clear hc7 hf7 hb7))
  have hk8 : Blk (w7.alloc (Obj.cells #[.int .i64 va, .int .i64 uy] 38)) w7.heap.size 38 #[.int .i64 va, .int .i64 uy] := Blk.new _ _ _
  have hw8 : Below w.heap.size w (w7.alloc (Obj.cells #[.int .i64 va, .int .i64 uy] 38)) := HW7.out.alloc HW7.out.size _
  generalize w7.alloc (Obj.cells #[.int .i64 va, .int .i64 uy] 38) = w8 at hk8 hw8 ⊢
  generalize w7.heap.size = G at hk8 ⊢
  have HW8 := Lib.hid hw8
  have c0 := hk8.cell 0
  have c1 := hk8.cell 1
  simp only [List.getElem?_toArray, List.getElem?_cons_succ, List.getElem?_cons_zero] at c0 c1
  have lG := hk8.lt
  obtain ⟨x3, x4⟩ := HX0.out w8 (HT.out.below hw8 hb)
  have yb : b < w8.heap.size := Nat.lt_of_lt_of_le hb hw8.size
  clear hk8 hw8
  go_upto_region 17 with (first | ((go_at_call 15; (with_reducible refine (F6.out _ ?_).mono ?_); (focus (exact HT.out.below HW8.out hb)); rintro e w9 ⟨rfl, hb9⟩; obtain ⟨hc9, hf9⟩ := bcell hb9; have hz9 := hb9.size; (try simp at hz9); (try simp only [heap_drew, World.heap_drewN] at hz9); (try simp only [heap_drew, World.heap_drewN] at hc9); (try simp only [heap_drew, World.heap_drewN] at hf9); (try have hs1 := Nat.lt_of_succ_le hz9); (try have hs2 := Nat.lt_of_succ_lt hs1); (try have y0 : w.heap.size < w9.heap.size := by omega); (try have y1 : w.heap.size + 1 < w9.heap.size := by omega); (try have y2 : w.heap.size + 2 < w9.heap.size := by omega)); have HW9 := Lib.hid (below_step HW8.out hb9); clear hc9 hf9 hb9))
  have hk10 : Blk (w9.alloc (Obj.cells #[.int .i64 n1, .int .i64 n2] 30)) w9.heap.size 30 #[.int .i64 n1, .int .i64 n2] := Blk.new _ _ _
  have hw10 : Below w.heap.size w (w9.alloc (Obj.cells #[.int .i64 n1, .int .i64 n2] 30)) := HW9.out.alloc HW9.out.size _
  generalize w9.alloc (Obj.cells #[.int .i64 n1, .int .i64 n2] 30) = w10 at hk10 hw10 ⊢
  generalize w9.heap.size = G1 at hk10 ⊢
  have HW10 := Lib.hid hw10
  have HK10 := Lib.hid hk10
  clear hk10 hw10 x3 x4 yb c0 c1 lG
  go_upto_region 18 with (first | ((go_at_call 15; (with_reducible refine (F7.out _ ?_).mono ?_); (focus (exact HT.out.below HW10.out hb)); rintro e w11 ⟨rfl, hb11⟩; obtain ⟨hc11, hf11⟩ := bcell hb11; have hz11 := hb11.size; (try simp at hz11); (try simp only [heap_drew, World.heap_drewN] at hz11); (try simp only [heap_drew, World.heap_drewN] at hc11); (try simp only [heap_drew, World.heap_drewN] at hf11); (try have hs1 := Nat.lt_of_succ_le hz11); (try have hs2 := Nat.lt_of_succ_lt hs1); (try have y0 : w.heap.size < w11.heap.size := by omega); (try have y1 : w.heap.size + 1 < w11.heap.size := by omega); (try have y2 : w.heap.size + 2 < w11.heap.size := by omega)); have HW11 := Lib.hid (below_step HW10.out hb11); have HK11 := Lib.hid (HK10.out.call hb11); clear hc11 hf11 hb11))
  have hk12 : Blk (w11.alloc (Obj.cells #[.int .i64 n3, .int .i64 n4] 30)) w11.heap.size 30 #[.int .i64 n3, .int .i64 n4] := Blk.new _ _ _
  have hk13 : Blk (w11.alloc (Obj.cells #[.int .i64 n3, .int .i64 n4] 30)) G1 30 #[.int .i64 n1, .int .i64 n2] := HK11.out.alloc _
  have hw12 : Below w.heap.size w (w11.alloc (Obj.cells #[.int .i64 n3, .int .i64 n4] 30)) := HW11.out.alloc HW11.out.size _
  generalize w11.alloc (Obj.cells #[.int .i64 n3, .int .i64 n4] 30) = w12 at hk12 hk13 hw12 ⊢
  generalize w11.heap.size = G2 at hk12 ⊢
  have HW12 := Lib.hid hw12
  have HK12 := Lib.hid hk12
  have HK13 := Lib.hid hk13
  have c0 := hk12.cell 0
  have c1 := hk12.cell 1
  have c2 := hk13.cell 0
  have c3 := hk13.cell 1
  simp only [List.getElem?_toArray, List.getElem?_cons_succ, List.getElem?_cons_zero] at c0 c1 c2 c3
  clear hk12 hk13 hw12
  rcases hk with ⟨rfl, rfl, s, hs, h8, h9⟩ | ⟨rfl, rfl⟩ | ⟨rfl, rfl⟩ | ⟨rfl, rfl⟩
  · have F8 := Lib.hid h8
    have F9 := Lib.hid h9
    have ts := decide_eq_true hs
    clear h8 h9 hs
    go_wp2_with (first
      | ((go_at_call 31; (with_reducible refine (F8.out _).mono ?_); rintro e w13 ⟨rfl, hb13⟩; obtain ⟨hc13, hf13⟩ := bcell hb13; have hz13 := hb13.size; (try simp at hz13); (try simp only [heap_drew, World.heap_drewN] at hz13); (try simp only [heap_drew, World.heap_drewN] at hc13); (try simp only [heap_drew, World.heap_drewN] at hf13); (try have hs1 := Nat.lt_of_succ_le hz13); (try have hs2 := Nat.lt_of_succ_lt hs1); (try have y0 : w.heap.size < w13.heap.size := by omega); (try have y1 : w.heap.size + 1 < w13.heap.size := by omega); (try have y2 : w.heap.size + 2 < w13.heap.size := by omega))
         have HW13 := Lib.hid (below_step HW12.out hb13)
         have d2 := (HK13.out.call hb13).cell 0
         have d3 := (HK13.out.call hb13).cell 1
         simp only [List.getElem?_toArray, List.getElem?_cons_succ, List.getElem?_cons_zero] at d2 d3
         clear hc13 hf13 hb13)
      | ((go_at_call 32; (with_reducible refine (F9.out _).mono ?_); rintro e w14 ⟨rfl, hb14⟩; obtain ⟨hc14, hf14⟩ := bcell hb14; have hz14 := hb14.size; (try simp at hz14); (try simp only [heap_drew, World.heap_drewN] at hz14); (try simp only [heap_drew, World.heap_drewN] at hc14); (try simp only [heap_drew, World.heap_drewN] at hf14); (try have hs1 := Nat.lt_of_succ_le hz14); (try have hs2 := Nat.lt_of_succ_lt hs1); (try have y0 : w.heap.size < w14.heap.size := by omega); (try have y1 : w.heap.size + 1 < w14.heap.size := by omega); (try have y2 : w.heap.size + 2 < w14.heap.size := by omega))
         have HW14 := Lib.hid (below_step HW13.out hb14)
         clear hc14 hf14 hb14))
    go_ret
    exact ⟨by simp, HW14.out⟩
  all_goals
    go_wp2_with fail
    go_ret
    exact ⟨by simp, HW12.out⟩
theorem at_den (b off m c : Nat) (X Y : Nat → Int) (x : Int) (hv : TabOK (m + 1) X Y) : ∃ (d r : Nat) (n1 n2 e : Int), Val.DenOK X Y m x d ∧ Val.rst X Y m x = (r : Int) ∧ r < d ∧ AtIs (Val.val X Y m x) r d n1 n2 e ∧ ∀ (w : World), TabAt w b off (m + 1) X Y →
      Calls Try.prog 15 #[.slice (some ⟨b, off, none⟩) (m + 1 : Nat) c, .int .i64 x] w fun e' w' => e' = .returned (.tuple #[.agg #[.int .i64 n1, .int .i64 n2], .int .i64 e]) ∧ Below w.heap.size w w' := by
  obtain ⟨d, hd, hP⟩ := tpiece_den b off m c X Y x hv
  obtain ⟨r, hr⟩ : ∃ r : Nat, Val.rst X Y m x = (r : Int) := ⟨(Val.rst X Y m x).toNat, by have := hd.2.2.1; omega⟩
  obtain ⟨n1, n2, e, hA⟩ := atIs_ex (Val.val X Y m x) r d
  have hrd : r < d := by have := hd.2.2.2.1; omega
  exact ⟨d, r, n1, n2, e, hd, hr, hrd, hA, fun w ht => tat b off m c d r X Y x n1 n2 e hv w ht hd.1 hd.2.1 hr hrd hA hP⟩
set_option maxRecDepth 100000 in
set_option maxHeartbeats 1000000 in
theorem grows_walk (A : Option Addr) (n c : Nat) (X Y : Nat → Int) (x aM aT : Int) (w : World) (hT : TabIn w A n X Y) (bM : 0 ≤ aM ∧ aM ≤ 4294967295) (bT : 0 ≤ aT ∧ aT ≤ 4294967295) :
    Calls Try.prog 9 #[.slice A n c, .int .i64 x, .int .u32 aM, .int .u32 aT] w fun e w' => e = .returned (.bool true) ∧ Below w.heap.size w w' := by
  have SA := Lib.hid fun w => cawake w
  have HT := Lib.hid hT
  have SV := Lib.hid fun w h => rvalid_any A n c X Y w h
  by_cases hok : TabOK n X Y
  · by_cases bx : -2251799813685248 ≤ x ∧ x ≤ 2251799813685248
    · rcases hT.2 with h0 | ⟨b, off, rfl, ht⟩
      · have := hok.1; omega
      · obtain ⟨m, rfl⟩ : ∃ m, n = m + 1 := ⟨n - 1, by have := hok.1; omega⟩
        obtain ⟨M, rfl⟩ : ∃ M : Nat, aM = (M : Int) := ⟨aM.toNat, by omega⟩
        obtain ⟨T, rfl⟩ : ∃ T : Nat, aT = (T : Int) := ⟨aT.toNat, by omega⟩
        have ha := asc_of hok
        have hRl : T % (M + 1) < M + 1 := Nat.mod_lt _ (by omega)
        obtain ⟨R, hR⟩ : ∃ R, R = T % (M + 1) := ⟨_, rfl⟩
        rw [← hR] at hRl
        obtain ⟨y, hy⟩ : ∃ y, y = x + (M : Int) := ⟨_, rfl⟩
        obtain ⟨mid, hmid⟩ : ∃ y, y = x + (R : Int) := ⟨_, rfl⟩
        have o1 : x ≤ mid := by omega
        have o2 : mid ≤ y := by omega
        obtain ⟨d1, r1, n1, n2, e1, D1, hr1, hl1, A1, C1⟩ := at_den b off m c X Y x hok
        obtain ⟨d2, r2, n3, n4, e2, D2, hr2, hl2, A2, C2⟩ := at_den b off m c X Y y hok
        refine grows_good b off (m + 1) m c M T (M + 1) R X Y x y mid (Val.val X Y m x) (Val.val X Y m mid) (Val.val X Y m y) (Val.up X Y m mid) (Val.cl X Y m y) n1 n2 e1 n3 n4 e2 w rfl hok ht bx (by omega) (by omega) rfl hR hy hmid
          (Val.val_mono ha o1) (Val.val_mono ha o2) Val.up_ge (by unfold Val.up; split <;> omega) (Val.up_mono ha o2) (Val.val_ge ha) (Val.val_le ha) (val_in mid hok)
          (fun w h => tfloor b off m c X Y _ hok w h) (fun w h => tfloor b off m c X Y _ hok w h) (fun w h => tfloor b off m c X Y _ hok w h) (fun w h => tceil b off m c X Y _ hok w h) (fun w h => tover b off m c X Y x y (by omega) hok w h) C1 C2 ?_
        rcases atIs_kind A1 with rfl | rfl
        · rcases atIs_kind A2 with rfl | rfl
          · obtain ⟨K1, B1, k1, rfl, p1, q1, l1, u1, g1, s1, f1⟩ := atIs_ok D1.1 hl1 A1
            obtain ⟨K2, B2, k2, rfl, p2, q2, l2, u2, g2, s2, f2⟩ := atIs_ok D2.1 hl2 A2
            have hm := frac_mono ha D1 D2 (by omega : x ≤ y)
            rw [hr1, hr2] at hm
            obtain ⟨s, hs, hc⟩ := qcmp n1 n3 B1 B2 p1 q1 l1 u1 g1 p2 q2 l2 u2 g2 (cross_le k1 k2 s1 s2 f1 f2 hm)
            exact .inl ⟨rfl, rfl, s, hs, hc, fun w => qfloor n1 _ B1 p1 q1 l1 u1 g1 (frac_floor k1 p1 s1 f1 hl1) w⟩
          · exact .inr (.inr (.inr ⟨rfl, rfl⟩))
        · rcases atIs_kind A2 with rfl | rfl
          · exact .inr (.inl ⟨rfl, rfl⟩)
          · exact .inr (.inr (.inl ⟨rfl, rfl⟩))
    · have tv := tabB_true hok
      by_cases h1 : x < -2251799813685248
      · have t1 := decide_eq_true h1
        clear hT hok bx h1 bM bT
        go_enter Try.func9, Try.ntmps9
        go_wp2_with (first | (go_at_call 10; (with_reducible refine (SA.out _).mono ?_); rintro e w1 ⟨rfl, hb1⟩; obtain ⟨hc1, hf1⟩ := bcell hb1; have hz1 := hb1.size; (try simp at hz1); (try simp only [heap_drew, World.heap_drewN] at hz1); (try simp only [heap_drew, World.heap_drewN] at hc1); (try simp only [heap_drew, World.heap_drewN] at hf1); (try have hs1 := Nat.lt_of_succ_le hz1); (try have hs2 := Nat.lt_of_succ_lt hs1); (try have y0 : w.heap.size < w1.heap.size := by omega); (try have y1 : w.heap.size + 1 < w1.heap.size := by omega); (try have y2 : w.heap.size + 2 < w1.heap.size := by omega)) | (go_at_call 12; (with_reducible refine (SV.out _ ?_).mono ?_); (focus (exact HT.out.below (Nat.le_refl _) (by (repeat' (first | assumption | exact Below.refl _ _ | exact Below.size (by assumption) | (refine Below.setCell ?_ ?_ _) | (refine Below.alloc ?_ ?_ _) | (refine Below.drew ?_) | (refine below_drewN ?_ _) | (refine Below.trans ?_ (Below.mono ‹Below _ _ _› ?_)) | omega | (simp; done) | (simp; omega) | (simp at *; omega)))))); rintro e w2 ⟨rfl, hb2⟩; obtain ⟨hc2, hf2⟩ := bcell hb2; have hz2 := hb2.size; (try simp at hz2); (try simp only [heap_drew, World.heap_drewN] at hz2); (try simp only [heap_drew, World.heap_drewN] at hc2); (try simp only [heap_drew, World.heap_drewN] at hf2); (try have hs1 := Nat.lt_of_succ_le hz2); (try have hs2 := Nat.lt_of_succ_lt hs1); (try have y0 : w.heap.size < w2.heap.size := by omega); (try have y1 : w.heap.size + 1 < w2.heap.size := by omega); (try have y2 : w.heap.size + 2 < w2.heap.size := by omega)))
        go_ret
        refine ⟨rfl, ?_⟩
        (repeat' (first | assumption | exact Below.refl _ _ | exact Below.size (by assumption) | (refine Below.setCell ?_ ?_ _) | (refine Below.alloc ?_ ?_ _) | (refine Below.drew ?_) | (refine below_drewN ?_ _) | (refine Below.trans ?_ (Below.mono ‹Below _ _ _› ?_)) | omega | (simp; done) | (simp; omega) | (simp at *; omega)))
      · have t1 := decide_eq_false h1
        have t2 : decide ((2251799813685248 : Int) < x) = true := decide_eq_true (by omega)
        clear hT hok bx h1 bM bT
        go_enter Try.func9, Try.ntmps9
        go_wp2_with (first | (go_at_call 10; (with_reducible refine (SA.out _).mono ?_); rintro e w1 ⟨rfl, hb1⟩; obtain ⟨hc1, hf1⟩ := bcell hb1; have hz1 := hb1.size; (try simp at hz1); (try simp only [heap_drew, World.heap_drewN] at hz1); (try simp only [heap_drew, World.heap_drewN] at hc1); (try simp only [heap_drew, World.heap_drewN] at hf1); (try have hs1 := Nat.lt_of_succ_le hz1); (try have hs2 := Nat.lt_of_succ_lt hs1); (try have y0 : w.heap.size < w1.heap.size := by omega); (try have y1 : w.heap.size + 1 < w1.heap.size := by omega); (try have y2 : w.heap.size + 2 < w1.heap.size := by omega)) | (go_at_call 12; (with_reducible refine (SV.out _ ?_).mono ?_); (focus (exact HT.out.below (Nat.le_refl _) (by (repeat' (first | assumption | exact Below.refl _ _ | exact Below.size (by assumption) | (refine Below.setCell ?_ ?_ _) | (refine Below.alloc ?_ ?_ _) | (refine Below.drew ?_) | (refine below_drewN ?_ _) | (refine Below.trans ?_ (Below.mono ‹Below _ _ _› ?_)) | omega | (simp; done) | (simp; omega) | (simp at *; omega)))))); rintro e w2 ⟨rfl, hb2⟩; obtain ⟨hc2, hf2⟩ := bcell hb2; have hz2 := hb2.size; (try simp at hz2); (try simp only [heap_drew, World.heap_drewN] at hz2); (try simp only [heap_drew, World.heap_drewN] at hc2); (try simp only [heap_drew, World.heap_drewN] at hf2); (try have hs1 := Nat.lt_of_succ_le hz2); (try have hs2 := Nat.lt_of_succ_lt hs1); (try have y0 : w.heap.size < w2.heap.size := by omega); (try have y1 : w.heap.size + 1 < w2.heap.size := by omega); (try have y2 : w.heap.size + 2 < w2.heap.size := by omega)))
        go_ret
        refine ⟨rfl, ?_⟩
        (repeat' (first | assumption | exact Below.refl _ _ | exact Below.size (by assumption) | (refine Below.setCell ?_ ?_ _) | (refine Below.alloc ?_ ?_ _) | (refine Below.drew ?_) | (refine below_drewN ?_ _) | (refine Below.trans ?_ (Below.mono ‹Below _ _ _› ?_)) | omega | (simp; done) | (simp; omega) | (simp at *; omega)))
  · have tv := tabB_false hok
    clear hT hok bM bT
    go_enter Try.func9, Try.ntmps9
    go_wp2_with (first | (go_at_call 10; (with_reducible refine (SA.out _).mono ?_); rintro e w1 ⟨rfl, hb1⟩; obtain ⟨hc1, hf1⟩ := bcell hb1; have hz1 := hb1.size; (try simp at hz1); (try simp only [heap_drew, World.heap_drewN] at hz1); (try simp only [heap_drew, World.heap_drewN] at hc1); (try simp only [heap_drew, World.heap_drewN] at hf1); (try have hs1 := Nat.lt_of_succ_le hz1); (try have hs2 := Nat.lt_of_succ_lt hs1); (try have y0 : w.heap.size < w1.heap.size := by omega); (try have y1 : w.heap.size + 1 < w1.heap.size := by omega); (try have y2 : w.heap.size + 2 < w1.heap.size := by omega)) | (go_at_call 12; (with_reducible refine (SV.out _ ?_).mono ?_); (focus (exact HT.out.below (Nat.le_refl _) (by (repeat' (first | assumption | exact Below.refl _ _ | exact Below.size (by assumption) | (refine Below.setCell ?_ ?_ _) | (refine Below.alloc ?_ ?_ _) | (refine Below.drew ?_) | (refine below_drewN ?_ _) | (refine Below.trans ?_ (Below.mono ‹Below _ _ _› ?_)) | omega | (simp; done) | (simp; omega) | (simp at *; omega)))))); rintro e w2 ⟨rfl, hb2⟩; obtain ⟨hc2, hf2⟩ := bcell hb2; have hz2 := hb2.size; (try simp at hz2); (try simp only [heap_drew, World.heap_drewN] at hz2); (try simp only [heap_drew, World.heap_drewN] at hc2); (try simp only [heap_drew, World.heap_drewN] at hf2); (try have hs1 := Nat.lt_of_succ_le hz2); (try have hs2 := Nat.lt_of_succ_lt hs1); (try have y0 : w.heap.size < w2.heap.size := by omega); (try have y1 : w.heap.size + 1 < w2.heap.size := by omega); (try have y2 : w.heap.size + 2 < w2.heap.size := by omega)))
    go_ret
    refine ⟨rfl, ?_⟩
    (repeat' (first | assumption | exact Below.refl _ _ | exact Below.size (by assumption) | (refine Below.setCell ?_ ?_ _) | (refine Below.alloc ?_ ?_ _) | (refine Below.drew ?_) | (refine below_drewN ?_ _) | (refine Below.trans ?_ (Below.mono ‹Below _ _ _› ?_)) | omega | (simp; done) | (simp; omega) | (simp at *; omega)))
end Go.Proofs.Ytpeelnjkppdkbaa

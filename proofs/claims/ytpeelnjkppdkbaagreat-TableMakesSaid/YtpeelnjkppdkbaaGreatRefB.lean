/- The reference's division of numbers of 128 bits. -/
import Derived.Test.YtpeelnjkppdkbaaGreatRefA
import Derived.Test.YtpeelnjkppdkbaaGreatCircle
namespace Go.Proofs.YtpeelnjkppdkbaaGreat
open Go.RowKit
set_option linter.unusedVariables false
set_option linter.unusedSimpArgs false

theorem Blk.two {w : World} {g : Nat} {t : TypeId} {a b x y : Value} (h : Blk w g t #[a, b]) : Blk ((w.setCell ⟨g, 0, none⟩ x).setCell ⟨g, 1, none⟩ y) g t #[x, y] := (h.set_ 0 x).set_ 1 y
theorem Blk.call {w w' : World} {g : Nat} {t : TypeId} {cs : Array Value} (h : Blk w g t cs) (hb : Below w.heap.size w w') : Blk w' g t cs := h.below hb h.lt
theorem Blk.second {w : World} {g : Nat} {t : TypeId} {a b y : Value} (h : Blk w g t #[a, b]) : Blk (w.setCell ⟨g, 1, none⟩ y) g t #[a, y] := h.set_ 1 y

/-- The division, bit by bit, behind i rounds. -/
def DvInv (N b i A q r : Nat) : Prop := ∃ T, N * 2 ^ i = T * 340282366920938463463374607431768211456 + A ∧ A < 340282366920938463463374607431768211456 ∧ T = q * b + r ∧ r < b
theorem dv_start {N b : Nat} (hN : N < 340282366920938463463374607431768211456) (hb : 0 < b) : DvInv N b 0 N 0 0 := ⟨0, by simp, hN, by simp, hb⟩
theorem dv_bound {N b i A q r : Nat} (hN : N < 340282366920938463463374607431768211456) (hi : i ≤ 128) (h : DvInv N b i A q r) (hb : 0 < b) : q ≤ N ∧ q * b + r ≤ N := by
  obtain ⟨T, h1, h2, h3, h4⟩ := h
  have hp : 2 ^ i ≤ 340282366920938463463374607431768211456 := Nat.pow_le_pow_right (by omega : 2 > 0) hi
  have h5 : N * 2 ^ i ≤ N * 340282366920938463463374607431768211456 := Nat.mul_le_mul_left _ hp
  have h6 : T ≤ N := by
    apply Nat.le_of_mul_le_mul_right (c := 340282366920938463463374607431768211456) _ (by omega)
    omega
  have h7 : q ≤ q * b := Nat.le_mul_of_pos_right q hb
  omega
theorem dv_step {N b i A q r c R : Nat} (h : DvInv N b i A q r) (hc : c = A / 170141183460469231731687303715884105728) (hR : R = 2 * r + c) :
    (R < b → DvInv N b (i + 1) (2 * A % 340282366920938463463374607431768211456) (2 * q) R) ∧ (b ≤ R → DvInv N b (i + 1) (2 * A % 340282366920938463463374607431768211456) (2 * q + 1) (R - b)) := by
  obtain ⟨T, h1, h2, h3, h4⟩ := h
  have e : N * 2 ^ (i + 1) = (2 * T + c) * 340282366920938463463374607431768211456 + 2 * A % 340282366920938463463374607431768211456 := by
    rw [Nat.pow_succ, ← Nat.mul_assoc, h1]
    omega
  have hq : 2 * q * b = 2 * (q * b) := Nat.mul_assoc 2 q b
  have hq' : (2 * q + 1) * b = 2 * (q * b) + b := by rw [Nat.add_mul, hq, Nat.one_mul]
  refine ⟨fun hlt => ⟨_, e, Nat.mod_lt _ (by omega), ?_, hlt⟩, fun hle => ⟨_, e, Nat.mod_lt _ (by omega), ?_, ?_⟩⟩
  · omega
  · omega
  · omega
theorem dv_end {N b A q r : Nat} (hN : N < 340282366920938463463374607431768211456) (h : DvInv N b 128 A q r) : q = N / b ∧ r = N % b := by
  obtain ⟨T, h1, h2, h3, h4⟩ := h
  have e : (2 : Nat) ^ 128 = 340282366920938463463374607431768211456 := by decide
  rw [e] at h1
  have hT : T = N := by omega
  rw [hT] at h3
  have hb : 0 < b := by omega
  have h5 : N / b = q := by
    rw [h3, Nat.mul_comm, Nat.mul_add_div hb, Nat.div_eq_of_lt h4, Nat.add_zero]
  have h6 : N % b = r := by
    rw [h3, Nat.mul_comm, Nat.mul_add_mod, Nat.mod_eq_of_lt h4]
  exact ⟨h5.symm, h6.symm⟩

/-- The memory of the division. -/
def DvMem (w wr : World) (G1 G2 G3 G4 G5 A b q r : Nat) : Prop :=
  Blk wr w.heap.size 86 #[.int .u64 (hi64 A), .int .u64 (lo64 A)] ∧ Blk wr G1 86 #[.int .u64 (hi64 b), .int .u64 (lo64 b)] ∧
  Blk wr G2 86 #[.int .u64 0, .int .u64 0] ∧ Blk wr G3 86 #[.int .u64 0, .int .u64 0] ∧
  Blk wr G4 86 #[.int .u64 (hi64 q), .int .u64 (lo64 q)] ∧ Blk wr G5 86 #[.int .u64 (hi64 r), .int .u64 (lo64 r)] ∧ Below w.heap.size w wr
theorem dv_mem {w : World} {G1 G2 G3 G4 G5 N b : Nat} (e1 : G1 = w.heap.size + 1) (e2 : G2 = w.heap.size + 1 + 1) (e3 : G3 = w.heap.size + 1 + 1 + 1) (e4 : G4 = w.heap.size + 1 + 1 + 1 + 1) (e5 : G5 = w.heap.size + 1 + 1 + 1 + 1 + 1) :
    DvMem w ((((((w.alloc (Obj.cells #[Value.int IntKind.u64 (hi64 N), Value.int IntKind.u64 (lo64 N)] 86)).alloc (Obj.cells #[Value.int IntKind.u64 (hi64 b), Value.int IntKind.u64 (lo64 b)] 86)).alloc
      (Obj.cells #[Value.int IntKind.u64 0, Value.int IntKind.u64 0] 86)).alloc (Obj.cells #[Value.int IntKind.u64 0, Value.int IntKind.u64 0] 86)).alloc
      (Obj.cells #[Value.int IntKind.u64 0, Value.int IntKind.u64 0] 86)).alloc (Obj.cells #[Value.int IntKind.u64 0, Value.int IntKind.u64 0] 86)) G1 G2 G3 G4 G5 N b 0 0 := by
  subst e1 e2 e3 e4 e5
  have hp : ∀ (w : World) (o : Obj), (w.alloc o).heap = w.heap.push o := fun _ _ => rfl
  refine ⟨?_, ?_, ?_, ?_, ?_, ?_, ?_⟩
  rotate_right
  (repeat' (first | assumption | exact Below.refl _ _ | exact Below.size (by assumption) | (refine Below.setCell ?_ ?_ _) | (refine Below.alloc ?_ ?_ _) | (refine Below.drew ?_) | (refine below_drewN ?_ _) | (refine Below.trans ?_ (Below.mono ‹Below _ _ _› ?_)) | omega | (simp; done) | (simp; omega) | (simp at *; omega)))
  all_goals (unfold Blk; simp only [hp, Array.getElem?_push, Array.size_push]; simp [hi64, lo64]; try (repeat rw [if_neg (by omega)]))

theorem rshift0 (a : Nat) (w : World) :
    Calls Tryz.prog 104 #[.agg #[.int .u64 (hi64 a), .int .u64 (lo64 a)], .int .u64 0] w fun e w' => e = .returned (.agg #[.int .u64 (hi64 (2 * a % 340282366920938463463374607431768211456)), .int .u64 (lo64 (2 * a % 340282366920938463463374607431768211456))]) ∧ Below w.heap.size w w' := rshift a 0 (by omega) w
theorem dv_round {N b i A q r c R : Nat} (hN : N < 340282366920938463463374607431768211456) (hb : b < 9223372036854775808) (hb0 : 0 < b) (h : DvInv N b i A q r) (hi : i < 128) (hc : c = A / 170141183460469231731687303715884105728) (hR : R = 2 * r + c) :
    c ≤ 1 ∧ hi64 A / 9223372036854775808 = (c : Int) ∧ hi64 r / 9223372036854775808 = 0 ∧ R % 340282366920938463463374607431768211456 = R ∧ 2 * q % 340282366920938463463374607431768211456 = 2 * q ∧
    (R < b → DvInv N b (i + 1) (2 * A % 340282366920938463463374607431768211456) (2 * q) R) ∧ R < 340282366920938463463374607431768211456 ∧
    (b ≤ R → DvInv N b (i + 1) (2 * A % 340282366920938463463374607431768211456) (2 * q + 1) (R - b) ∧ IntKind.u64.wrap (lo64 (2 * q) + 1) = lo64 (2 * q + 1) ∧ hi64 (2 * q) = hi64 (2 * q + 1)) := by
  obtain ⟨s1, s2⟩ := dv_step h hc hR
  have hA : A < 340282366920938463463374607431768211456 := by obtain ⟨T, h1, h2, h3, h4⟩ := h; exact h2
  have hr : r < b := by obtain ⟨T, h1, h2, h3, h4⟩ := h; exact h4
  have hq : 2 * q ≤ N := by
    rcases Nat.lt_or_ge R b with hl | hl
    · exact (dv_bound hN (by omega) (s1 hl) hb0).1
    · have := (dv_bound hN (by omega) (s2 hl) hb0).1; omega
  refine ⟨by omega, by unfold hi64; omega, by unfold hi64; omega, by omega, by omega, s1, by omega, fun hle => ⟨s2 hle, ?_, ?_⟩⟩
  · unfold lo64; rw [IntKind.wrap_u64]; omega
  · unfold hi64; omega
theorem dv_measure {i j : Nat} (hj : j = i + 1) (h : i < 128) : (128 - intOf (Value.int .i64 (j : Int))).toNat < (128 - intOf (Value.int .i64 (i : Int))).toNat := by simp [intOf]; omega
set_option maxRecDepth 100000 in
set_option maxHeartbeats 4000000 in
theorem rdiv (N b : Nat) (hN : N < 340282366920938463463374607431768211456) (hb0 : 0 < b) (hb : b < 9223372036854775808) (w : World) :
    Calls Tryz.prog 103 #[.agg #[.int .u64 (hi64 N), .int .u64 (lo64 N)], .agg #[.int .u64 (hi64 b), .int .u64 (lo64 b)]] w fun e w' => e = .returned (.tuple #[.agg #[.int .u64 (hi64 (N / b)), .int .u64 (lo64 (N / b))], .agg #[.int .u64 (hi64 (N % b)), .int .u64 (lo64 (N % b))]]) ∧ Below w.heap.size w w' := by
  have HN := Lib.hid hN
  have HB0' := Lib.hid hb0
  have HBB := Lib.hid hb
  clear hN hb0 hb
  obtain ⟨Q, hQ⟩ : ∃ z, z = N / b := ⟨_, rfl⟩
  obtain ⟨M, hM⟩ : ∃ z, z = N % b := ⟨_, rfl⟩
  rw [← hQ, ← hM]
  have HQ := Lib.hid hQ
  have HMM := Lib.hid hM
  clear hQ hM
  go_enter Tryz.func103, Tryz.ntmps103
  go_wp2_with fail
  obtain ⟨G5, e5⟩ : ∃ G, G = w.heap.size + 1 + 1 + 1 + 1 + 1 := ⟨_, rfl⟩
  rw [← e5]
  obtain ⟨G4, e4⟩ : ∃ G, G = w.heap.size + 1 + 1 + 1 + 1 := ⟨_, rfl⟩
  rw [← e4]
  obtain ⟨G3, e3⟩ : ∃ G, G = w.heap.size + 1 + 1 + 1 := ⟨_, rfl⟩
  rw [← e3]
  obtain ⟨G2, e2⟩ : ∃ G, G = w.heap.size + 1 + 1 := ⟨_, rfl⟩
  rw [← e2]
  obtain ⟨G1, e1⟩ : ∃ G, G = w.heap.size + 1 := ⟨_, rfl⟩
  rw [← e1]
  have HM := Lib.hid (dv_mem (N := N) (b := b) e1 e2 e3 e4 e5)
  have HG : Hid (w.heap.size ≤ G1 ∧ w.heap.size ≤ G2 ∧ w.heap.size ≤ G3 ∧ w.heap.size ≤ G4 ∧ w.heap.size ≤ G5) := by show _ ∧ _; omega
  have n01 : ¬ w.heap.size = G1 := by omega
  have n02 : ¬ w.heap.size = G2 := by omega
  have n03 : ¬ w.heap.size = G3 := by omega
  have n04 : ¬ w.heap.size = G4 := by omega
  have n05 : ¬ w.heap.size = G5 := by omega
  have n10 : ¬ G1 = w.heap.size := by omega
  have n12 : ¬ G1 = G2 := by omega
  have n13 : ¬ G1 = G3 := by omega
  have n14 : ¬ G1 = G4 := by omega
  have n15 : ¬ G1 = G5 := by omega
  have n20 : ¬ G2 = w.heap.size := by omega
  have n21 : ¬ G2 = G1 := by omega
  have n23 : ¬ G2 = G3 := by omega
  have n24 : ¬ G2 = G4 := by omega
  have n25 : ¬ G2 = G5 := by omega
  have n30 : ¬ G3 = w.heap.size := by omega
  have n31 : ¬ G3 = G1 := by omega
  have n32 : ¬ G3 = G2 := by omega
  have n34 : ¬ G3 = G4 := by omega
  have n35 : ¬ G3 = G5 := by omega
  have n40 : ¬ G4 = w.heap.size := by omega
  have n41 : ¬ G4 = G1 := by omega
  have n42 : ¬ G4 = G2 := by omega
  have n43 : ¬ G4 = G3 := by omega
  have n45 : ¬ G4 = G5 := by omega
  have n50 : ¬ G5 = w.heap.size := by omega
  have n51 : ¬ G5 = G1 := by omega
  have n52 : ¬ G5 = G2 := by omega
  have n53 : ¬ G5 = G3 := by omega
  have n54 : ¬ G5 = G4 := by omega
  clear e1 e2 e3 e4 e5
  go_loopw [8] (fun u wr => ∃ i A q r : Nat, Hid (DvInv N b i A q r) ∧ Hid (i ≤ 128) ∧ u = .int .i64 i ∧ Hid (DvMem w wr G1 G2 G3 G4 G5 A b q r)) (fun u _ => (128 - intOf u).toNat)
  case atStart => exact ⟨0, N, 0, 0, dv_start HN.out HB0'.out, Nat.zero_le _, rfl, HM⟩
  case round =>
    obtain ⟨i, A, q, r, HI, Hi, rfl, HMr⟩ := hrel
    have HB0 := Lib.hid HMr.out.1
    have HB1 := Lib.hid HMr.out.2.1
    have HB2 := Lib.hid HMr.out.2.2.1
    have HB3 := Lib.hid HMr.out.2.2.2.1
    have HB4 := Lib.hid HMr.out.2.2.2.2.1
    have HB5 := Lib.hid HMr.out.2.2.2.2.2.1
    have HBW := Lib.hid HMr.out.2.2.2.2.2.2
    have a0 := HB0.out.cell 0
    have b0 := HB0.out.cell 1
    have c0 := HB0.out.frozen 0
    have d0 := HB0.out.frozen 1
    have l0 := HB0.out.lt
    have a1 := HB1.out.cell 0
    have b1 := HB1.out.cell 1
    have c1 := HB1.out.frozen 0
    have d1 := HB1.out.frozen 1
    have l1 := HB1.out.lt
    have a2 := HB2.out.cell 0
    have b2 := HB2.out.cell 1
    have c2 := HB2.out.frozen 0
    have d2 := HB2.out.frozen 1
    have l2 := HB2.out.lt
    have a3 := HB3.out.cell 0
    have b3 := HB3.out.cell 1
    have c3 := HB3.out.frozen 0
    have d3 := HB3.out.frozen 1
    have l3 := HB3.out.lt
    have a4 := HB4.out.cell 0
    have b4 := HB4.out.cell 1
    have c4 := HB4.out.frozen 0
    have d4 := HB4.out.frozen 1
    have l4 := HB4.out.lt
    have a5 := HB5.out.cell 0
    have b5 := HB5.out.cell 1
    have c5 := HB5.out.frozen 0
    have d5 := HB5.out.frozen 1
    have l5 := HB5.out.lt
    simp only [List.getElem?_toArray, List.getElem?_cons_succ, List.getElem?_cons_zero] at a0 b0 a1 b1 a2 b2 a3 b3 a4 b4 a5 b5
    have g1 := HG.out.1
    have g2 := HG.out.2.1
    have g3 := HG.out.2.2.1
    have g4 := HG.out.2.2.2.1
    have g5 := HG.out.2.2.2.2
    by_cases hlt : i < 128
    · have T0 : decide ((i : Int) < 128) = true := by simp <;> omega
      obtain ⟨j, hj⟩ : ∃ j, j = i + 1 := ⟨_, rfl⟩
      have x1 : IntKind.i64.wrap ((i : Int) + 1) = (j : Int) := by rw [IntKind.wrap_i64]; omega
      obtain ⟨c, hc⟩ : ∃ c, c = A / 170141183460469231731687303715884105728 := ⟨_, rfl⟩
      obtain ⟨R, hR⟩ : ∃ z, z = 2 * r + c := ⟨_, rfl⟩
      obtain ⟨F1, F2, F3, F4, F5, F6, F7⟩ := dv_round HN.out HBB.out HB0'.out HI.out hlt hc hR
      have S1 := Lib.hid fun w => rshift0 A w
      have S2 := Lib.hid fun w => rshift r c F1 w
      rw [← hR, F4] at S2
      have S3 := Lib.hid fun w => rshift0 q w
      rw [F5] at S3
      obtain ⟨A', hA'⟩ : ∃ z, z = 2 * A % 340282366920938463463374607431768211456 := ⟨_, rfl⟩
      rw [← hA'] at S1 F6 F7
      obtain ⟨q2, hq2⟩ : ∃ z, z = 2 * q := ⟨_, rfl⟩
      rw [← hq2] at S3 F6 F7
      have HJ : Hid (j ≤ 128) := by show j ≤ 128; omega
      have HMS := Lib.hid (dv_measure hj hlt)
      rw [← hj] at F6 F7
      have HR2 := Lib.hid (show R < 340282366920938463463374607431768211456 from F7.1)
      clear hlt hc hR F1 F4 F5 hA' hq2 hj
      by_cases hl : R < b
      · have HI' := Lib.hid (F6 hl)
        have S4 := Lib.hid fun w => rless R b true (by simp [hl]) w
        clear F6 F7 hl
        go_wp2_with (first | (go_at_call 104; (with_reducible refine (S1.out _).mono ?_); rintro e w1 ⟨rfl, hb1⟩; obtain ⟨hc1, hf1⟩ := bcell hb1; have hz1 := hb1.size; (try simp at hz1); (try simp only [heap_drew, World.heap_drewN] at hz1); (try simp only [heap_drew, World.heap_drewN] at hc1); (try simp only [heap_drew, World.heap_drewN] at hf1); (try have hs1 := Nat.lt_of_succ_le hz1); (try have hs2 := Nat.lt_of_succ_lt hs1); (try have y0 : w.heap.size < w1.heap.size := by omega); (try have y1 : w.heap.size + 1 < w1.heap.size := by omega); (try have y2 : w.heap.size + 2 < w1.heap.size := by omega); (try have yG1 : G1 < w1.heap.size := by omega); (try have yG2 : G2 < w1.heap.size := by omega); (try have yG3 : G3 < w1.heap.size := by omega); (try have yG4 : G4 < w1.heap.size := by omega); (try have yG5 : G5 < w1.heap.size := by omega)) | (go_at_call 104; (with_reducible refine (S2.out _).mono ?_); rintro e w2 ⟨rfl, hb2⟩; obtain ⟨hc2, hf2⟩ := bcell hb2; have hz2 := hb2.size; (try simp at hz2); (try simp only [heap_drew, World.heap_drewN] at hz2); (try simp only [heap_drew, World.heap_drewN] at hc2); (try simp only [heap_drew, World.heap_drewN] at hf2); (try have hs1 := Nat.lt_of_succ_le hz2); (try have hs2 := Nat.lt_of_succ_lt hs1); (try have y0 : w.heap.size < w2.heap.size := by omega); (try have y1 : w.heap.size + 1 < w2.heap.size := by omega); (try have y2 : w.heap.size + 2 < w2.heap.size := by omega); (try have yG1 : G1 < w2.heap.size := by omega); (try have yG2 : G2 < w2.heap.size := by omega); (try have yG3 : G3 < w2.heap.size := by omega); (try have yG4 : G4 < w2.heap.size := by omega); (try have yG5 : G5 < w2.heap.size := by omega)) | (go_at_call 104; (with_reducible refine (S3.out _).mono ?_); rintro e w3 ⟨rfl, hb3⟩; obtain ⟨hc3, hf3⟩ := bcell hb3; have hz3 := hb3.size; (try simp at hz3); (try simp only [heap_drew, World.heap_drewN] at hz3); (try simp only [heap_drew, World.heap_drewN] at hc3); (try simp only [heap_drew, World.heap_drewN] at hf3); (try have hs1 := Nat.lt_of_succ_le hz3); (try have hs2 := Nat.lt_of_succ_lt hs1); (try have y0 : w.heap.size < w3.heap.size := by omega); (try have y1 : w.heap.size + 1 < w3.heap.size := by omega); (try have y2 : w.heap.size + 2 < w3.heap.size := by omega); (try have yG1 : G1 < w3.heap.size := by omega); (try have yG2 : G2 < w3.heap.size := by omega); (try have yG3 : G3 < w3.heap.size := by omega); (try have yG4 : G4 < w3.heap.size := by omega); (try have yG5 : G5 < w3.heap.size := by omega)) | (go_at_call 99; (with_reducible refine (S4.out _).mono ?_); rintro e w4 ⟨rfl, hb4⟩; obtain ⟨hc4, hf4⟩ := bcell hb4; have hz4 := hb4.size; (try simp at hz4); (try simp only [heap_drew, World.heap_drewN] at hz4); (try simp only [heap_drew, World.heap_drewN] at hc4); (try simp only [heap_drew, World.heap_drewN] at hf4); (try have hs1 := Nat.lt_of_succ_le hz4); (try have hs2 := Nat.lt_of_succ_lt hs1); (try have y0 : w.heap.size < w4.heap.size := by omega); (try have y1 : w.heap.size + 1 < w4.heap.size := by omega); (try have y2 : w.heap.size + 2 < w4.heap.size := by omega); (try have yG1 : G1 < w4.heap.size := by omega); (try have yG2 : G2 < w4.heap.size := by omega); (try have yG3 : G3 < w4.heap.size := by omega); (try have yG4 : G4 < w4.heap.size := by omega); (try have yG5 : G5 < w4.heap.size := by omega)))
        go_roundw
        case rel =>
          refine ⟨j, A', q2, R, HI', HJ, rfl, ?_⟩
          refine ⟨(((((((((HB0.out).call hb1).two).call hb2).far n05 _).far n05 _).call hb3).far n04 _).far n04 _).call hb4, ((((((((((HB1.out).call hb1).far n10 _).far n10 _).call hb2).far n15 _).far n15 _).call hb3).far n14 _).far n14 _).call hb4, ((((((((((HB2.out).call hb1).far n20 _).far n20 _).call hb2).far n25 _).far n25 _).call hb3).far n24 _).far n24 _).call hb4, ((((((((((HB3.out).call hb1).far n30 _).far n30 _).call hb2).far n35 _).far n35 _).call hb3).far n34 _).far n34 _).call hb4, (((((((((HB4.out).call hb1).far n40 _).far n40 _).call hb2).far n45 _).far n45 _).call hb3).two).call hb4, (((((((((HB5.out).call hb1).far n50 _).far n50 _).call hb2).two).call hb3).far n54 _).far n54 _).call hb4, ?_⟩
          (repeat' (first | assumption | exact Below.refl _ _ | exact Below.size (by assumption) | (refine Below.setCell ?_ ?_ _) | (refine Below.alloc ?_ ?_ _) | (refine Below.drew ?_) | (refine below_drewN ?_ _) | (refine Below.trans ?_ (Below.mono ‹Below _ _ _› ?_)) | omega | (simp; done) | (simp; omega) | (simp at *; omega)))
        case measure => exact HMS.out
      · have hle : b ≤ R := by omega
        obtain ⟨D1, D2, D3⟩ := F7.2 hle
        have HI' := Lib.hid D1
        have S4 := Lib.hid fun w => rless R b false (by simp [hle]) w
        have S5 := Lib.hid fun w => rminus R b hle HR2.out w
        clear F6 F7 hl hle D1
        go_wp2_with (first | (go_at_call 104; (with_reducible refine (S1.out _).mono ?_); rintro e w1 ⟨rfl, hb1⟩; obtain ⟨hc1, hf1⟩ := bcell hb1; have hz1 := hb1.size; (try simp at hz1); (try simp only [heap_drew, World.heap_drewN] at hz1); (try simp only [heap_drew, World.heap_drewN] at hc1); (try simp only [heap_drew, World.heap_drewN] at hf1); (try have hs1 := Nat.lt_of_succ_le hz1); (try have hs2 := Nat.lt_of_succ_lt hs1); (try have y0 : w.heap.size < w1.heap.size := by omega); (try have y1 : w.heap.size + 1 < w1.heap.size := by omega); (try have y2 : w.heap.size + 2 < w1.heap.size := by omega); (try have yG1 : G1 < w1.heap.size := by omega); (try have yG2 : G2 < w1.heap.size := by omega); (try have yG3 : G3 < w1.heap.size := by omega); (try have yG4 : G4 < w1.heap.size := by omega); (try have yG5 : G5 < w1.heap.size := by omega)) | (go_at_call 104; (with_reducible refine (S2.out _).mono ?_); rintro e w2 ⟨rfl, hb2⟩; obtain ⟨hc2, hf2⟩ := bcell hb2; have hz2 := hb2.size; (try simp at hz2); (try simp only [heap_drew, World.heap_drewN] at hz2); (try simp only [heap_drew, World.heap_drewN] at hc2); (try simp only [heap_drew, World.heap_drewN] at hf2); (try have hs1 := Nat.lt_of_succ_le hz2); (try have hs2 := Nat.lt_of_succ_lt hs1); (try have y0 : w.heap.size < w2.heap.size := by omega); (try have y1 : w.heap.size + 1 < w2.heap.size := by omega); (try have y2 : w.heap.size + 2 < w2.heap.size := by omega); (try have yG1 : G1 < w2.heap.size := by omega); (try have yG2 : G2 < w2.heap.size := by omega); (try have yG3 : G3 < w2.heap.size := by omega); (try have yG4 : G4 < w2.heap.size := by omega); (try have yG5 : G5 < w2.heap.size := by omega)) | (go_at_call 104; (with_reducible refine (S3.out _).mono ?_); rintro e w3 ⟨rfl, hb3⟩; obtain ⟨hc3, hf3⟩ := bcell hb3; have hz3 := hb3.size; (try simp at hz3); (try simp only [heap_drew, World.heap_drewN] at hz3); (try simp only [heap_drew, World.heap_drewN] at hc3); (try simp only [heap_drew, World.heap_drewN] at hf3); (try have hs1 := Nat.lt_of_succ_le hz3); (try have hs2 := Nat.lt_of_succ_lt hs1); (try have y0 : w.heap.size < w3.heap.size := by omega); (try have y1 : w.heap.size + 1 < w3.heap.size := by omega); (try have y2 : w.heap.size + 2 < w3.heap.size := by omega); (try have yG1 : G1 < w3.heap.size := by omega); (try have yG2 : G2 < w3.heap.size := by omega); (try have yG3 : G3 < w3.heap.size := by omega); (try have yG4 : G4 < w3.heap.size := by omega); (try have yG5 : G5 < w3.heap.size := by omega)) | (go_at_call 99; (with_reducible refine (S4.out _).mono ?_); rintro e w4 ⟨rfl, hb4⟩; obtain ⟨hc4, hf4⟩ := bcell hb4; have hz4 := hb4.size; (try simp at hz4); (try simp only [heap_drew, World.heap_drewN] at hz4); (try simp only [heap_drew, World.heap_drewN] at hc4); (try simp only [heap_drew, World.heap_drewN] at hf4); (try have hs1 := Nat.lt_of_succ_le hz4); (try have hs2 := Nat.lt_of_succ_lt hs1); (try have y0 : w.heap.size < w4.heap.size := by omega); (try have y1 : w.heap.size + 1 < w4.heap.size := by omega); (try have y2 : w.heap.size + 2 < w4.heap.size := by omega); (try have yG1 : G1 < w4.heap.size := by omega); (try have yG2 : G2 < w4.heap.size := by omega); (try have yG3 : G3 < w4.heap.size := by omega); (try have yG4 : G4 < w4.heap.size := by omega); (try have yG5 : G5 < w4.heap.size := by omega)) | (go_at_call 100; (with_reducible refine (S5.out _).mono ?_); rintro e w5 ⟨rfl, hb5⟩; obtain ⟨hc5, hf5⟩ := bcell hb5; have hz5 := hb5.size; (try simp at hz5); (try simp only [heap_drew, World.heap_drewN] at hz5); (try simp only [heap_drew, World.heap_drewN] at hc5); (try simp only [heap_drew, World.heap_drewN] at hf5); (try have hs1 := Nat.lt_of_succ_le hz5); (try have hs2 := Nat.lt_of_succ_lt hs1); (try have y0 : w.heap.size < w5.heap.size := by omega); (try have y1 : w.heap.size + 1 < w5.heap.size := by omega); (try have y2 : w.heap.size + 2 < w5.heap.size := by omega); (try have yG1 : G1 < w5.heap.size := by omega); (try have yG2 : G2 < w5.heap.size := by omega); (try have yG3 : G3 < w5.heap.size := by omega); (try have yG4 : G4 < w5.heap.size := by omega); (try have yG5 : G5 < w5.heap.size := by omega)))
        go_roundw
        case rel =>
          refine ⟨j, A', q2 + 1, R - b, HI', HJ, rfl, ?_⟩
          refine Lib.hid ?_
          unfold DvMem
          refine ⟨(((((((((((((HB0.out).call hb1).two).call hb2).far n05 _).far n05 _).call hb3).far n04 _).far n04 _).call hb4).call hb5).far n05 _).far n05 _).far n04 _, ((((((((((((((HB1.out).call hb1).far n10 _).far n10 _).call hb2).far n15 _).far n15 _).call hb3).far n14 _).far n14 _).call hb4).call hb5).far n15 _).far n15 _).far n14 _, ((((((((((((((HB2.out).call hb1).far n20 _).far n20 _).call hb2).far n25 _).far n25 _).call hb3).far n24 _).far n24 _).call hb4).call hb5).far n25 _).far n25 _).far n24 _, ((((((((((((((HB3.out).call hb1).far n30 _).far n30 _).call hb2).far n35 _).far n35 _).call hb3).far n34 _).far n34 _).call hb4).call hb5).far n35 _).far n35 _).far n34 _, (((((((((((((HB4.out).call hb1).far n40 _).far n40 _).call hb2).far n45 _).far n45 _).call hb3).two).call hb4).call hb5).far n45 _).far n45 _).second, ((((((((((((HB5.out).call hb1).far n50 _).far n50 _).call hb2).two).call hb3).far n54 _).far n54 _).call hb4).call hb5).two).far n54 _, ?_⟩
          (repeat' (first | assumption | exact Below.refl _ _ | exact Below.size (by assumption) | (refine Below.setCell ?_ ?_ _) | (refine Below.alloc ?_ ?_ _) | (refine Below.drew ?_) | (refine below_drewN ?_ _) | (refine Below.trans ?_ (Below.mono ‹Below _ _ _› ?_)) | omega | (simp; done) | (simp; omega) | (simp at *; omega)))
        case measure => exact HMS.out
    · obtain rfl : i = 128 := by have := Hi.out; omega
      obtain ⟨eq, er⟩ := dv_end HN.out HI.out
      obtain rfl : q = Q := eq.trans HQ.out.symm
      obtain rfl : r = M := er.trans HMM.out.symm
      clear hlt eq er
      go_wp2_with fail
      go_region
      all_goals (go_wp2_with fail)
      all_goals (refine bodyPost_ret (v := .tuple #[.agg #[.int .u64 (hi64 q), .int .u64 (lo64 q)], .agg #[.int .u64 (hi64 r), .int .u64 (lo64 r)]]) (by simp [results, Tryz.results103, go_sem, *]) rfl ⟨rfl, ?_⟩)
      all_goals ((repeat' (first | assumption | exact Below.refl _ _ | exact Below.size (by assumption) | (refine Below.setCell ?_ ?_ _) | (refine Below.alloc ?_ ?_ _) | (refine Below.drew ?_) | (refine below_drewN ?_ _) | (refine Below.trans ?_ (Below.mono ‹Below _ _ _› ?_)) | omega | (simp; done) | (simp; omega) | (simp at *; omega))))
end Go.Proofs.YtpeelnjkppdkbaaGreat

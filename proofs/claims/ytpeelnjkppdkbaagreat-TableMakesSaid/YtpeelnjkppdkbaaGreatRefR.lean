/- The reference's sum of two values. -/
import Derived.Test.YtpeelnjkppdkbaaGreatRefQ
import Derived.Test.YtpeelnjkppdkbaaGreatPlaces
import Derived.Deep.RegionWith
namespace Go.Proofs.YtpeelnjkppdkbaaGreat
open Go.RowKit
set_option linter.unusedVariables false
set_option linter.unusedSimpArgs false

theorem car_order (r d s c : Nat) (hr : r < d) (hs : s < c) : decide ((c - s) * d ≤ r * c) = car r d s c := by
  rcases Nat.eq_zero_or_pos r with h1 | h1
  · subst h1
    rw [car_zero (.inl rfl)]
    refine decide_eq_false fun h => ?_
    have : 0 < (c - s) * d := Nat.mul_pos (by omega) (by omega)
    omega
  · rcases Nat.eq_zero_or_pos s with h2 | h2
    · subst h2
      rw [car_zero (.inr rfl)]
      refine decide_eq_false fun h => ?_
      have : r * c < d * c := Nat.mul_lt_mul_of_pos_right hr (by omega)
      rw [Nat.sub_zero, Nat.mul_comm] at h
      omega
    · exact (car_iff h1 h2 hs).symm
theorem prod_128 {a b : Nat} (ha : a ≤ 2251799813685248) (hb : b ≤ 2251799813685248) : a * b < 340282366920938463463374607431768211456 := by
  have := Nat.mul_le_mul ha hb
  omega
set_option maxRecDepth 100000 in
set_option maxHeartbeats 2000000 in
theorem rsumt (ba oa na ma ca bb ob nb mb cb : Nat) (XA YA XB YB : Nat → Int) (x : Int) (hx : -9223372036854775808 ≤ x ∧ x ≤ 9223372036854775807) (ea : na = ma + 1) (eb : nb = mb + 1) (hvA : TabOK na XA YA) (hvB : TabOK nb XB YB) (w : World) (hA : TabAt w ba oa na XA YA) (hB : TabAt w bb ob nb XB YB) :
    Calls Tryz.prog 29 #[.slice (some ⟨ba, oa, none⟩) na ca, .slice (some ⟨bb, ob, none⟩) nb cb, .int .i64 x] w fun e w' => e = .returned (.int .i64 (addY XA YA ma XB YB mb x)) ∧ Below w.heap.size w w' := by
  have HA := Lib.hid hA
  have HB := Lib.hid hB
  have hba := hA.1
  have hbb := hB.1
  have hvA' := hvA
  have hvB' := hvB
  rw [ea] at hvA'
  rw [eb] at hvB'
  obtain ⟨dA, okA, cA⟩ := rvalue_den ba oa ma ca XA YA x hvA' hx
  obtain ⟨dB, okB, cB⟩ := rvalue_den bb ob mb cb XB YB x hvB' hx
  rw [← ea] at cA
  rw [← eb] at cB
  have vb1 := val_in x hvA'
  have vb2 := val_in x hvB'
  obtain ⟨rA, hrA⟩ : ∃ r : Nat, Val.rst XA YA ma x = (r : Int) := ⟨(Val.rst XA YA ma x).toNat, by have := okA.2.2.1; omega⟩
  obtain ⟨rB, hrB⟩ : ∃ r : Nat, Val.rst XB YB mb x = (r : Int) := ⟨(Val.rst XB YB mb x).toNat, by have := okB.2.2.1; omega⟩
  have hQ : addY XA YA ma XB YB mb x = Val.val XA YA ma x + Val.val XB YB mb x + (if car rA dA rB dB then 1 else 0) := by
    unfold addY
    rw [hrA, hrB, Int.toNat_natCast, Int.toNat_natCast, car_den (fun h => okA.2.2.2.2 (by rw [hrA]; omega)) (fun h => okB.2.2.2.2 (by rw [hrB]; omega))]
  have lA : rA < dA := by have := okA.2.2.2.1; omega
  have lB : rB < dB := by have := okB.2.2.2.1; omega
  have uA := okA.2.1
  have uB := okB.2.1
  rw [hrA] at cA
  rw [hrB] at cB
  rw [hQ]
  obtain ⟨vA, hvAA⟩ : ∃ v, v = Val.val XA YA ma x := ⟨_, rfl⟩
  obtain ⟨vB, hvBB⟩ : ∃ v, v = Val.val XB YB mb x := ⟨_, rfl⟩
  rw [← hvAA] at cA vb1 ⊢
  rw [← hvBB] at cB vb2 ⊢
  have CA := Lib.hid cA
  have CB := Lib.hid cB
  obtain ⟨k, hk⟩ : ∃ k, k = dB - rB := ⟨_, rfl⟩
  have e1 : IntKind.i64.wrap ((dB : Int) - (rB : Int)) = (k : Int) := by rw [IntKind.wrap_i64]; omega
  have T1 := Lib.hid fun w => rtimes rA dB (by omega) (by omega) w
  have T2 := Lib.hid fun w => rtimes k dA (by omega) (by omega) w
  obtain ⟨z, hz, hO⟩ := rorder (rA * dB) (k * dA) (prod_128 (by omega) uB) (prod_128 (by omega) uA) (Nat.pos_iff_ne_zero.1 (Nat.mul_pos (by omega) (by omega)))
  have T3 := Lib.hid hO
  have hcar : decide (0 ≤ z) = car rA dA rB dB := by
    rw [← car_order rA dA rB dB lA lB, ← hk]
    exact decide_eq_decide.2 hz
  obtain ⟨p1, hp1⟩ : ∃ z, z = hi64 (rA * dB) := ⟨_, rfl⟩
  obtain ⟨p0, hp0⟩ : ∃ z, z = lo64 (rA * dB) := ⟨_, rfl⟩
  obtain ⟨q1, hq1⟩ : ∃ z, z = hi64 (k * dA) := ⟨_, rfl⟩
  obtain ⟨q0, hq0⟩ : ∃ z, z = lo64 (k * dA) := ⟨_, rfl⟩
  rw [← hp1, ← hp0] at T1
  rw [← hq1, ← hq0] at T2
  rw [← hp1, ← hp0, ← hq1, ← hq0] at T3
  obtain ⟨f, hf⟩ : ∃ f, f = car rA dA rB dB := ⟨_, rfl⟩
  rw [← hf] at hcar ⊢
  obtain ⟨y0, hy0⟩ : ∃ z, z = vA + vB := ⟨_, rfl⟩
  obtain ⟨y1, hy1⟩ : ∃ z, z = y0 + 1 := ⟨_, rfl⟩
  unfold inB at vb1 vb2
  have e2 : IntKind.i64.wrap (vA + vB) = y0 := by rw [hy0, IntKind.wrap_i64]; omega
  have e3 : IntKind.i64.wrap (y0 + 1) = y1 := by rw [hy1, IntKind.wrap_i64]; omega
  rw [← hy0]
  clear hA hB hvA hvB hvA' hvB' okA okB cA cB vb1 vb2 hrA hrB hQ lA lB uA uB hvAA hvBB hk hz hO hp1 hp0 hq1 hq0 hf hy0 hx ea eb
  cases f with
  | true =>
    rw [if_pos rfl, ← hy1]
    clear hy1
    go_enter Tryz.func29, Tryz.ntmps29
    go_wp2_with (first
      | ((go_at_call 50; (with_reducible refine (CA.out _ ?_).mono ?_); (focus (exact HA.out.below (by (repeat' (first | assumption | exact Below.refl _ _ | exact Below.size (by assumption) | (refine Below.setCell ?_ ?_ _) | (refine Below.alloc ?_ ?_ _) | (refine Below.drew ?_) | (refine below_drewN ?_ _) | (refine Below.trans ?_ (Below.mono ‹Below _ _ _› ?_)) | omega | (simp; done) | (simp; omega) | (simp at *; omega)))) hba)); rintro e w1 ⟨rfl, hb1⟩; obtain ⟨hc1, hf1⟩ := bcell hb1; have hz1 := hb1.size; (try simp at hz1); (try simp only [heap_drew, World.heap_drewN] at hz1); (try simp only [heap_drew, World.heap_drewN] at hc1); (try simp only [heap_drew, World.heap_drewN] at hf1); (try have hs1 := Nat.lt_of_succ_le hz1); (try have hs2 := Nat.lt_of_succ_lt hs1); (try have y0 : w.heap.size < w1.heap.size := by omega); (try have y1 : w.heap.size + 1 < w1.heap.size := by omega); (try have y2 : w.heap.size + 2 < w1.heap.size := by omega)))
      | ((go_at_call 50; (with_reducible refine (CB.out _ ?_).mono ?_); (focus (exact HB.out.below (by (repeat' (first | assumption | exact Below.refl _ _ | exact Below.size (by assumption) | (refine Below.setCell ?_ ?_ _) | (refine Below.alloc ?_ ?_ _) | (refine Below.drew ?_) | (refine below_drewN ?_ _) | (refine Below.trans ?_ (Below.mono ‹Below _ _ _› ?_)) | omega | (simp; done) | (simp; omega) | (simp at *; omega)))) hbb)); rintro e w2 ⟨rfl, hb2⟩; obtain ⟨hc2, hf2⟩ := bcell hb2; have hz2 := hb2.size; (try simp at hz2); (try simp only [heap_drew, World.heap_drewN] at hz2); (try simp only [heap_drew, World.heap_drewN] at hc2); (try simp only [heap_drew, World.heap_drewN] at hf2); (try have hs1 := Nat.lt_of_succ_le hz2); (try have hs2 := Nat.lt_of_succ_lt hs1); (try have y0 : w.heap.size < w2.heap.size := by omega); (try have y1 : w.heap.size + 1 < w2.heap.size := by omega); (try have y2 : w.heap.size + 2 < w2.heap.size := by omega)))
      | ((go_at_call 52; (with_reducible refine (T1.out _).mono ?_); rintro e w3 ⟨rfl, hb3⟩; obtain ⟨hc3, hf3⟩ := bcell hb3; have hz3 := hb3.size; (try simp at hz3); (try simp only [heap_drew, World.heap_drewN] at hz3); (try simp only [heap_drew, World.heap_drewN] at hc3); (try simp only [heap_drew, World.heap_drewN] at hf3); (try have hs1 := Nat.lt_of_succ_le hz3); (try have hs2 := Nat.lt_of_succ_lt hs1); (try have y0 : w.heap.size < w3.heap.size := by omega); (try have y1 : w.heap.size + 1 < w3.heap.size := by omega); (try have y2 : w.heap.size + 2 < w3.heap.size := by omega)))
      | ((go_at_call 52; (with_reducible refine (T2.out _).mono ?_); rintro e w4 ⟨rfl, hb4⟩; obtain ⟨hc4, hf4⟩ := bcell hb4; have hz4 := hb4.size; (try simp at hz4); (try simp only [heap_drew, World.heap_drewN] at hz4); (try simp only [heap_drew, World.heap_drewN] at hc4); (try simp only [heap_drew, World.heap_drewN] at hf4); (try have hs1 := Nat.lt_of_succ_le hz4); (try have hs2 := Nat.lt_of_succ_lt hs1); (try have y0 : w.heap.size < w4.heap.size := by omega); (try have y1 : w.heap.size + 1 < w4.heap.size := by omega); (try have y2 : w.heap.size + 2 < w4.heap.size := by omega)))
      | ((go_at_call 51; (with_reducible refine (T3.out _).mono ?_); rintro e w5 ⟨rfl, hb5⟩; obtain ⟨hc5, hf5⟩ := bcell hb5; have hz5 := hb5.size; (try simp at hz5); (try simp only [heap_drew, World.heap_drewN] at hz5); (try simp only [heap_drew, World.heap_drewN] at hc5); (try simp only [heap_drew, World.heap_drewN] at hf5); (try have hs1 := Nat.lt_of_succ_le hz5); (try have hs2 := Nat.lt_of_succ_lt hs1); (try have y0 : w.heap.size < w5.heap.size := by omega); (try have y1 : w.heap.size + 1 < w5.heap.size := by omega); (try have y2 : w.heap.size + 2 < w5.heap.size := by omega))))
    go_ret
    refine ⟨rfl, ?_⟩
    (repeat' (first | assumption | exact Below.refl _ _ | exact Below.size (by assumption) | (refine Below.setCell ?_ ?_ _) | (refine Below.alloc ?_ ?_ _) | (refine Below.drew ?_) | (refine below_drewN ?_ _) | (refine Below.trans ?_ (Below.mono ‹Below _ _ _› ?_)) | omega | (simp; done) | (simp; omega) | (simp at *; omega)))
  | false =>
    rw [if_neg (by decide), Int.add_zero]
    clear hy1
    go_enter Tryz.func29, Tryz.ntmps29
    go_wp2_with (first
      | ((go_at_call 50; (with_reducible refine (CA.out _ ?_).mono ?_); (focus (exact HA.out.below (by (repeat' (first | assumption | exact Below.refl _ _ | exact Below.size (by assumption) | (refine Below.setCell ?_ ?_ _) | (refine Below.alloc ?_ ?_ _) | (refine Below.drew ?_) | (refine below_drewN ?_ _) | (refine Below.trans ?_ (Below.mono ‹Below _ _ _› ?_)) | omega | (simp; done) | (simp; omega) | (simp at *; omega)))) hba)); rintro e w1 ⟨rfl, hb1⟩; obtain ⟨hc1, hf1⟩ := bcell hb1; have hz1 := hb1.size; (try simp at hz1); (try simp only [heap_drew, World.heap_drewN] at hz1); (try simp only [heap_drew, World.heap_drewN] at hc1); (try simp only [heap_drew, World.heap_drewN] at hf1); (try have hs1 := Nat.lt_of_succ_le hz1); (try have hs2 := Nat.lt_of_succ_lt hs1); (try have y0 : w.heap.size < w1.heap.size := by omega); (try have y1 : w.heap.size + 1 < w1.heap.size := by omega); (try have y2 : w.heap.size + 2 < w1.heap.size := by omega)))
      | ((go_at_call 50; (with_reducible refine (CB.out _ ?_).mono ?_); (focus (exact HB.out.below (by (repeat' (first | assumption | exact Below.refl _ _ | exact Below.size (by assumption) | (refine Below.setCell ?_ ?_ _) | (refine Below.alloc ?_ ?_ _) | (refine Below.drew ?_) | (refine below_drewN ?_ _) | (refine Below.trans ?_ (Below.mono ‹Below _ _ _› ?_)) | omega | (simp; done) | (simp; omega) | (simp at *; omega)))) hbb)); rintro e w2 ⟨rfl, hb2⟩; obtain ⟨hc2, hf2⟩ := bcell hb2; have hz2 := hb2.size; (try simp at hz2); (try simp only [heap_drew, World.heap_drewN] at hz2); (try simp only [heap_drew, World.heap_drewN] at hc2); (try simp only [heap_drew, World.heap_drewN] at hf2); (try have hs1 := Nat.lt_of_succ_le hz2); (try have hs2 := Nat.lt_of_succ_lt hs1); (try have y0 : w.heap.size < w2.heap.size := by omega); (try have y1 : w.heap.size + 1 < w2.heap.size := by omega); (try have y2 : w.heap.size + 2 < w2.heap.size := by omega)))
      | ((go_at_call 52; (with_reducible refine (T1.out _).mono ?_); rintro e w3 ⟨rfl, hb3⟩; obtain ⟨hc3, hf3⟩ := bcell hb3; have hz3 := hb3.size; (try simp at hz3); (try simp only [heap_drew, World.heap_drewN] at hz3); (try simp only [heap_drew, World.heap_drewN] at hc3); (try simp only [heap_drew, World.heap_drewN] at hf3); (try have hs1 := Nat.lt_of_succ_le hz3); (try have hs2 := Nat.lt_of_succ_lt hs1); (try have y0 : w.heap.size < w3.heap.size := by omega); (try have y1 : w.heap.size + 1 < w3.heap.size := by omega); (try have y2 : w.heap.size + 2 < w3.heap.size := by omega)))
      | ((go_at_call 52; (with_reducible refine (T2.out _).mono ?_); rintro e w4 ⟨rfl, hb4⟩; obtain ⟨hc4, hf4⟩ := bcell hb4; have hz4 := hb4.size; (try simp at hz4); (try simp only [heap_drew, World.heap_drewN] at hz4); (try simp only [heap_drew, World.heap_drewN] at hc4); (try simp only [heap_drew, World.heap_drewN] at hf4); (try have hs1 := Nat.lt_of_succ_le hz4); (try have hs2 := Nat.lt_of_succ_lt hs1); (try have y0 : w.heap.size < w4.heap.size := by omega); (try have y1 : w.heap.size + 1 < w4.heap.size := by omega); (try have y2 : w.heap.size + 2 < w4.heap.size := by omega)))
      | ((go_at_call 51; (with_reducible refine (T3.out _).mono ?_); rintro e w5 ⟨rfl, hb5⟩; obtain ⟨hc5, hf5⟩ := bcell hb5; have hz5 := hb5.size; (try simp at hz5); (try simp only [heap_drew, World.heap_drewN] at hz5); (try simp only [heap_drew, World.heap_drewN] at hc5); (try simp only [heap_drew, World.heap_drewN] at hf5); (try have hs1 := Nat.lt_of_succ_le hz5); (try have hs2 := Nat.lt_of_succ_lt hs1); (try have y0 : w.heap.size < w5.heap.size := by omega); (try have y1 : w.heap.size + 1 < w5.heap.size := by omega); (try have y2 : w.heap.size + 2 < w5.heap.size := by omega))))
    go_ret
    refine ⟨rfl, ?_⟩
    (repeat' (first | assumption | exact Below.refl _ _ | exact Below.size (by assumption) | (refine Below.setCell ?_ ?_ _) | (refine Below.alloc ?_ ?_ _) | (refine Below.drew ?_) | (refine below_drewN ?_ _) | (refine Below.trans ?_ (Below.mono ‹Below _ _ _› ?_)) | omega | (simp; done) | (simp; omega) | (simp at *; omega)))

end Go.Proofs.YtpeelnjkppdkbaaGreat

/- large and heavy of law 55. -/
import Derived.Test.YtdgfljkhnifemaaGreatDoorHasN
import Derived.Test.YtdgfljkhnifemaaGreatDoorMgD
import Derived.Test.YtdgfljkhnifemaaGreatDoorNetQ
namespace Go.Proofs.YtdgfljkhnifemaaGreatDoor
open Go.RowKit
set_option linter.unusedVariables false
set_option linter.unusedSimpArgs false

/-- A network is too large for the law. -/
def lgP (D : Nds) (n : Nat) (K : Lks) (m : Nat) : Prop := 14 < n ∨ 16 < m ∨ (∃ j, j < n ∧ (fun j => decide (20 < D.SN j ∨ 60 < (D.Nm j).size)) j = true) ∨ (∃ j, j < m ∧ (fun j => decide (20 < K.CN j ∨ 60 < (K.Nm j).size ∨ 60 < (K.Fr j).size ∨ 60 < (K.To j).size ∨ 60 < (K.Sc j).size)) j = true)
/-- What a network that is not too large keeps. -/
theorem lg_not {D : Nds} {n : Nat} {K : Lks} {m : Nat} (h : ¬ lgP D n K m) : n ≤ 14 ∧ m ≤ 16 ∧ (∀ i, i < n → D.SN i ≤ 20 ∧ (D.Nm i).size ≤ 60) ∧ ∀ i, i < m → K.CN i ≤ 20 ∧ (K.Nm i).size ≤ 60 ∧ (K.Fr i).size ≤ 60 ∧ (K.To i).size ≤ 60 ∧ (K.Sc i).size ≤ 60 := by
  unfold lgP at h
  refine ⟨?_, ?_, fun i hi => ?_, fun i hi => ?_⟩
  · rcases Nat.lt_or_ge 14 n with g | g
    · exact absurd (.inl g) h
    · exact g
  · rcases Nat.lt_or_ge 16 m with g | g
    · exact absurd (.inr (.inl g)) h
    · exact g
  · have : ¬ (20 < D.SN i ∨ 60 < (D.Nm i).size) := fun g => h (.inr (.inr (.inl ⟨i, hi, decide_eq_true g⟩)))
    omega
  · have : ¬ (20 < K.CN i ∨ 60 < (K.Nm i).size ∨ 60 < (K.Fr i).size ∨ 60 < (K.To i).size ∨ 60 < (K.Sc i).size) := fun g => h (.inr (.inr (.inr ⟨i, hi, decide_eq_true g⟩)))
    omega
theorem lg_sz {D : Nds} {n : Nat} {K : Lks} {m : Nat} (h : ¬ lgP D n K m) : NetSz D n K m := by
  obtain ⟨h1, h2, h3, h4⟩ := lg_not h
  refine ⟨by omega, by omega, fun i hi => ?_, fun i hi => ?_, fun i hi => ?_, fun i hi => ?_, fun i hi => ?_, fun i hi => ?_⟩
  · have := h3 i hi; unfold maxLen; omega
  · have := h4 i hi; unfold maxLen; omega
  · have := h4 i hi; unfold maxLen; omega
  · have := h4 i hi; unfold maxLen; omega
  · have := h4 i hi; unfold maxLen; omega
  · have := h4 i hi; omega
set_option maxRecDepth 100000 in
set_option maxHeartbeats 4000000 in
theorem tlarge (NA LA : Option Addr) (n nc m lc : Nat) (D : Nds) (K : Lks) (w : World) (hD : NdIn w NA n D) (hK : LkIn w LA m K) :
    Calls Tryz.prog 6 #[.agg #[.slice NA n nc, .slice LA m lc]] w fun e w' => e = .returned (.bool (boolOf (lgP D n K m))) ∧ Below w.heap.size w w' := by
  have HD := Lib.hid hD
  have HK := Lib.hid hK
  have H0 : Hid (Below w.heap.size w (w.alloc (Obj.cells #[.slice NA n nc, .slice LA m lc] 25))) := (Below.refl _ w).alloc (Nat.le_refl _) _
  have HB0 := Lib.hid (Blk.new w 25 #[.slice NA n nc, .slice LA m lc])
  by_cases h1 : 14 < n
  case pos =>
    rw [boolOf_true (show lgP D n K m from .inl h1)]
    have t1 : decide ((14 : Int) < (n : Int)) = true := decide_eq_true (by omega)
    have t1' : decide (14 < n) = true := decide_eq_true (by omega)
    clear h1
    clear hD hK
    go_enter Tryz.func6, Tryz.ntmps6
    go_wp2_with fail
    go_ret
    exact ⟨rfl, H0.out⟩
  by_cases h2 : 16 < m
  case pos =>
    rw [boolOf_true (show lgP D n K m from .inr (.inl h2))]
    have t1 : decide ((14 : Int) < (n : Int)) = false := decide_eq_false (by omega)
    have t1' : decide (14 < n) = false := decide_eq_false (by omega)
    have t2 : decide ((16 : Int) < (m : Int)) = true := decide_eq_true (by omega)
    have t2' : decide (16 < m) = true := decide_eq_true (by omega)
    clear h1 h2
    clear hD hK
    go_enter Tryz.func6, Tryz.ntmps6
    go_wp2_with fail
    go_ret
    exact ⟨rfl, H0.out⟩
  by_cases h3 : ∃ j, j < n ∧ (fun j => decide (20 < D.SN j ∨ 60 < (D.Nm j).size)) j = true
  case pos =>
    rw [boolOf_true (show lgP D n K m from .inr (.inr (.inl h3)))]
    have SN := Lib.hid fun w hD => has_lnode NA n nc D w (by omega) hD true ⟨fun _ => h3, fun _ => rfl⟩
    have t1 : decide ((14 : Int) < (n : Int)) = false := decide_eq_false (by omega)
    have t1' : decide (14 < n) = false := decide_eq_false (by omega)
    have t2 : decide ((16 : Int) < (m : Int)) = false := decide_eq_false (by omega)
    have t2' : decide (16 < m) = false := decide_eq_false (by omega)
    clear h1 h2 h3
    clear hD hK
    go_enter Tryz.func6, Tryz.ntmps6
    go_wp2_with (first
      | (go_at_call 20
         with_reducible refine (SN.out _ ?_).mono ?_
         focus (exact HD.out.below (Nat.le_refl _) H0.out)
         rintro e w1 ⟨rfl, hb1⟩
         have H1 := Lib.hid (below_step H0.out hb1)
         obtain ⟨d0, d1⟩ := blk2 (HB0.out.call hb1)
         clear hb1))
    go_ret
    exact ⟨rfl, H1.out⟩
  have SN := Lib.hid fun w hD => has_lnode NA n nc D w (by omega) hD false ⟨fun h => (by cases h), fun h => absurd h h3⟩
  by_cases h4 : ∃ j, j < m ∧ (fun j => decide (20 < K.CN j ∨ 60 < (K.Nm j).size ∨ 60 < (K.Fr j).size ∨ 60 < (K.To j).size ∨ 60 < (K.Sc j).size)) j = true
  case pos =>
    rw [boolOf_true (show lgP D n K m from .inr (.inr (.inr h4)))]
    have SL := Lib.hid fun w hK => has_llink LA m lc K w (by omega) hK true ⟨fun _ => h4, fun _ => rfl⟩
    have t1 : decide ((14 : Int) < (n : Int)) = false := decide_eq_false (by omega)
    have t1' : decide (14 < n) = false := decide_eq_false (by omega)
    have t2 : decide ((16 : Int) < (m : Int)) = false := decide_eq_false (by omega)
    have t2' : decide (16 < m) = false := decide_eq_false (by omega)
    clear h1 h2 h3 h4
    clear hD hK
    go_enter Tryz.func6, Tryz.ntmps6
    go_wp2_with (first
      | (go_at_call 20
         with_reducible refine (SN.out _ ?_).mono ?_
         focus (exact HD.out.below (Nat.le_refl _) H0.out)
         rintro e w1 ⟨rfl, hb1⟩
         have H1 := Lib.hid (below_step H0.out hb1)
         obtain ⟨d0, d1⟩ := blk2 (HB0.out.call hb1)
         clear hb1)
      | (go_at_call 22
         with_reducible refine (SL.out _ ?_).mono ?_
         focus (exact HK.out.below (Nat.le_refl _) H1.out)
         rintro e w2 ⟨rfl, hb2⟩
         have H2 := Lib.hid (below_step H1.out hb2)
         clear hb2))
    go_ret
    exact ⟨rfl, H2.out⟩
  have SL := Lib.hid fun w hK => has_llink LA m lc K w (by omega) hK false ⟨fun h => (by cases h), fun h => absurd h h4⟩
  rw [boolOf_false (show ¬ lgP D n K m from fun h => h.elim h1 fun h => h.elim h2 fun h => h.elim h3 h4)]
  have t1 : decide ((14 : Int) < (n : Int)) = false := decide_eq_false (by omega)
  have t1' : decide (14 < n) = false := decide_eq_false (by omega)
  have t2 : decide ((16 : Int) < (m : Int)) = false := decide_eq_false (by omega)
  have t2' : decide (16 < m) = false := decide_eq_false (by omega)
  clear h1 h2 h3 h4
  clear hD hK
  go_enter Tryz.func6, Tryz.ntmps6
  go_wp2_with (first
    | (go_at_call 20
       with_reducible refine (SN.out _ ?_).mono ?_
       focus (exact HD.out.below (Nat.le_refl _) H0.out)
       rintro e w1 ⟨rfl, hb1⟩
       have H1 := Lib.hid (below_step H0.out hb1)
       obtain ⟨d0, d1⟩ := blk2 (HB0.out.call hb1)
       clear hb1)
    | (go_at_call 22
       with_reducible refine (SL.out _ ?_).mono ?_
       focus (exact HK.out.below (Nat.le_refl _) H1.out)
       rintro e w2 ⟨rfl, hb2⟩
       have H2 := Lib.hid (below_step H1.out hb2)
       clear hb2))
  go_ret
  exact ⟨rfl, H2.out⟩
end Go.Proofs.YtdgfljkhnifemaaGreatDoor

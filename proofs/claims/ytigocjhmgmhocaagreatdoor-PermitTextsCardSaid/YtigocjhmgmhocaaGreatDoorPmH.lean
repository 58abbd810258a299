/- slices.ContainsFunc at the closures that look at permits (law 39). -/
import Derived.Test.YtigocjhmgmhocaaGreatDoorPmI
import Derived.Test.YtigocjhmgmhocaaGreatDoorStrs
namespace Go.Proofs.YtigocjhmgmhocaaGreatDoor
open Go.RowKit
set_option linter.unusedVariables false
set_option linter.unusedSimpArgs false

/-- Permits whose names are not too long to be read. -/
structure PmS (w : World) (A : Option Addr) (n : Nat) (P : Pms) : Prop where
  i : PmIn w A n P
  s : ∀ k, k < n → (P.Nm k).size ≤ maxLen ∧ (P.Nd k).size ≤ maxLen
theorem PmS.below {w w' : World} {B n : Nat} {A : Option Addr} {P : Pms} (h : PmS w A n P) (hB : w.heap.size ≤ B) (hb : Below B w w') : PmS w' A n P := ⟨h.i.below hB hb, h.s⟩
theorem PmS.at {w : World} {A : Option Addr} {n k : Nat} {P : Pms} (h : PmS w A n P) (hk : k < n) : ∃ b off, A = some ⟨b, off, none⟩ ∧ b < w.heap.size ∧ w.cell? ⟨b, off + k * 5, none⟩ = some (.string (P.Nm k)) ∧ w.cell? ⟨b, off + k * 5 + 1, none⟩ = some (.string (P.Nd k)) ∧ w.cell? ⟨b, off + k * 5 + 2, none⟩ = some (.int .i64 (P.Ev k)) ∧ w.cell? ⟨b, off + k * 5 + 3, none⟩ = some (.int .i64 (P.Vol k)) ∧ w.cell? ⟨b, off + k * 5 + 4, none⟩ = some (.int .i64 (P.Tot k)) ∧ (P.Nm k).size ≤ maxLen ∧ (P.Nd k).size ≤ maxLen := by
  obtain ⟨b, off, h1, h2, h3, h4, h5, h6, h7⟩ := h.i.at hk
  exact ⟨b, off, h1, h2, h3, h4, h5, h6, h7, h.s k hk⟩
set_option maxRecDepth 100000 in
theorem p_pinv (nm nd : ByteArray) (ev vol tot : Int) (h1 : nm.size ≤ maxLen) (h2 : nd.size ≤ maxLen) (f : Bool) (hf : f = !validB nm nd ev vol tot) (w : World) : Calls Tryz.prog 30 #[.agg #[.string nm, .string nd, .int .i64 ev, .int .i64 vol, .int .i64 tot]] w fun e w' => e = .returned (.bool f) ∧ Below w.heap.size w w' := by
  subst hf
  have S := Lib.hid fun w => tvalid nm nd ev vol tot h1 h2 w
  clear h1 h2
  generalize validB nm nd ev vol tot = v at S ⊢
  go_enter Tryz.func30, Tryz.ntmps30
  go_wp2_with (first | (go_at_call 16; (with_reducible refine (S.out _).mono ?_); rintro e w1 ⟨rfl, hb1⟩; obtain ⟨hc1, hf1⟩ := bcell hb1; have hz1 := hb1.size; (try simp at hz1); (try simp only [heap_drew, World.heap_drewN] at hz1); (try simp only [heap_drew, World.heap_drewN] at hc1); (try simp only [heap_drew, World.heap_drewN] at hf1); (try have hs1 := Nat.lt_of_succ_le hz1); (try have hs2 := Nat.lt_of_succ_lt hs1); (try have y0 : w.heap.size < w1.heap.size := by omega); (try have y1 : w.heap.size + 1 < w1.heap.size := by omega); (try have y2 : w.heap.size + 2 < w1.heap.size := by omega)))
  go_ret
  exact ⟨rfl, by (repeat' (first | assumption | exact Below.refl _ _ | exact Below.size (by assumption) | (refine Below.setCell ?_ ?_ _) | (refine Below.alloc ?_ ?_ _) | (refine Below.drew ?_) | (refine below_drewN ?_ _) | (refine Below.trans ?_ (Below.mono ‹Below _ _ _› ?_)) | omega | (simp; done) | (simp; omega) | (simp at *; omega)))⟩
set_option maxRecDepth 100000 in
set_option maxHeartbeats 2000000 in
theorem find_pinv (A : Option Addr) (n c k : Nat) (P : Pms) (w : World) (h2 : n ≤ 2000) (ht : PmS w A n P) (hk : FirstAt (fun j => !validB (P.Nm j) (P.Nd j) (P.Ev j) (P.Vol j) (P.Tot j)) n k) (v : Int) (hv : v = if k < n then (k : Int) else -1) :
    Calls Tryz.prog 19 #[.slice A n c, .func (.func 30) #[] #[]] w fun e w' => e = .returned (.int .i64 v) ∧ Below w.heap.size w w' := by
  have HT := Lib.hid ht
  have HK := Lib.hid hk
  have H2 := Lib.hid h2
  have HV := Lib.hid hv
  clear ht hk h2 hv
  go_enter Tryz.func19, Tryz.ntmps19
  go_wp2_with fail
  go_loopw [8] (fun u wr => ∃ i : Nat, Hid (i ≤ n ∧ i ≤ k) ∧ u = .int .i64 i ∧ Hid (Below w.heap.size w wr)) (fun u _ => n - (RowKit.intOf u).toNat)
  case atStart => exact ⟨0, ⟨Nat.zero_le _, Nat.zero_le _⟩, rfl, Below.refl _ _⟩
  case round =>
    obtain ⟨i, Hi, rfl, HW⟩ := hrel
    by_cases hlt : i < n
    · have T0 : decide ((i : Int) < (n : Int)) = true := by simp <;> omega
      have T0' : decide (i < n) = true := decide_eq_true hlt
      obtain ⟨i', hi'⟩ : ∃ z, z = i + 1 := ⟨_, rfl⟩
      have x0 : IntKind.i64.wrap ((i : Int) + 1) = (i' : Int) := by have := H2.out; rw [IntKind.wrap_i64]; omega
      obtain ⟨b, off, rfl, hb, c0, c1, c2, c3, c4, z1, z2⟩ := (HT.out.below (Nat.le_refl _) HW.out).at hlt

      have k0 : (0 : Int) ≤ (i : Int) := by omega
      have k1 : (i : Int) < (n : Int) := by omega
      have HMS : Hid (n - (RowKit.intOf (Value.int .i64 (i' : Int))).toNat < n - (RowKit.intOf (Value.int .i64 (i : Int))).toNat) := by show _ < _; simp [RowKit.intOf]; omega
      rcases first_at HK.out hlt Hi.out.2 with ⟨hp, hik⟩ | ⟨hp, hik⟩
      · have KK := Lib.hid fun w => (p_pinv (P.Nm i) (P.Nd i) (P.Ev i) (P.Vol i) (P.Tot i) z1 z2 true hp.symm w)
        have HR : Hid ((i : Int) = v) := by show (i : Int) = v; rw [HV.out, hik, if_pos (by omega)]
        clear hi' hp hik
        go_wp2_with (first | (go_at_call 30; (with_reducible refine (KK.out _).mono ?_); rintro e w1 ⟨rfl, hb1⟩; obtain ⟨hc1, hf1⟩ := bcell hb1; have hz1 := hb1.size; (try simp at hz1); (try simp only [heap_drew, World.heap_drewN] at hz1); (try simp only [heap_drew, World.heap_drewN] at hc1); (try simp only [heap_drew, World.heap_drewN] at hf1); (try have hs1 := Nat.lt_of_succ_le hz1); (try have hs2 := Nat.lt_of_succ_lt hs1); (try have y0 : w.heap.size < w1.heap.size := by omega); (try have y1 : w.heap.size + 1 < w1.heap.size := by omega); (try have y2 : w.heap.size + 2 < w1.heap.size := by omega)))
        go_ret
        refine ⟨ret_int HR.out, ?_⟩
        have := HW.out
        (repeat' (first | assumption | exact Below.refl _ _ | exact Below.size (by assumption) | (refine Below.setCell ?_ ?_ _) | (refine Below.alloc ?_ ?_ _) | (refine Below.drew ?_) | (refine below_drewN ?_ _) | (refine Below.trans ?_ (Below.mono ‹Below _ _ _› ?_)) | omega | (simp; done) | (simp; omega) | (simp at *; omega)))
      · have KK := Lib.hid fun w => (p_pinv (P.Nm i) (P.Nd i) (P.Ev i) (P.Vol i) (P.Tot i) z1 z2 false hp.symm w)
        have HI' : Hid (i' ≤ n ∧ i' ≤ k) := by show _ ∧ _; omega
        clear hi' hp hik
        go_wp2_with (first | (go_at_call 30; (with_reducible refine (KK.out _).mono ?_); rintro e w1 ⟨rfl, hb1⟩; obtain ⟨hc1, hf1⟩ := bcell hb1; have hz1 := hb1.size; (try simp at hz1); (try simp only [heap_drew, World.heap_drewN] at hz1); (try simp only [heap_drew, World.heap_drewN] at hc1); (try simp only [heap_drew, World.heap_drewN] at hf1); (try have hs1 := Nat.lt_of_succ_le hz1); (try have hs2 := Nat.lt_of_succ_lt hs1); (try have y0 : w.heap.size < w1.heap.size := by omega); (try have y1 : w.heap.size + 1 < w1.heap.size := by omega); (try have y2 : w.heap.size + 2 < w1.heap.size := by omega)))
        go_roundw
        case rel => exact ⟨i', HI', rfl, by have := HW.out; (repeat' (first | assumption | exact Below.refl _ _ | exact Below.size (by assumption) | (refine Below.setCell ?_ ?_ _) | (refine Below.alloc ?_ ?_ _) | (refine Below.drew ?_) | (refine below_drewN ?_ _) | (refine Below.trans ?_ (Below.mono ‹Below _ _ _› ?_)) | omega | (simp; done) | (simp; omega) | (simp at *; omega)))⟩
        case measure => exact HMS.out
    · have e : i = n := by have := Hi.out; omega
      have HR : Hid ((-1 : Int) = v) := by show (-1 : Int) = v; rw [HV.out, if_neg (by have := Hi.out; omega)]
      have T0 : decide ((i : Int) < (n : Int)) = false := by simp <;> omega
      have T0' : decide (i < n) = false := decide_eq_false hlt
      clear e hlt
      go_wp2_with fail
      go_ret
      exact ⟨ret_int HR.out, HW.out⟩
theorem has_pinv (A : Option Addr) (n c : Nat) (P : Pms) (w : World) (h2 : n ≤ 2000) (ht : PmS w A n P) (f : Bool) (hf : f = true ↔ ∃ j, j < n ∧ (fun j => !validB (P.Nm j) (P.Nd j) (P.Ev j) (P.Vol j) (P.Tot j)) j = true) :
    Calls Tryz.prog 6 #[.slice A n c, .func (.func 30) #[] #[]] w fun e w' => e = .returned (.bool f) ∧ Below w.heap.size w w' := by
  obtain ⟨k, hk⟩ := first_ex (fun j => !validB (P.Nm j) (P.Nd j) (P.Ev j) (P.Vol j) (P.Tot j)) n
  have hany := first_any hk
  have S := Lib.hid (find_pinv A n c k P w h2 ht hk _ rfl)
  by_cases hkn : k < n
  · have hft : f = true := hf.2 (hany.1 hkn)
    rw [if_pos hkn] at S
    have t : decide ((0 : Int) ≤ (k : Int)) = true := decide_eq_true (by omega)
    subst hft
    clear hk hany hkn hf ht h2
    go_enter Tryz.func6, Tryz.ntmps6
    go_wp2_with (first | (go_at_call 19; (with_reducible refine (S.out).mono ?_); rintro e w1 ⟨rfl, hb1⟩; obtain ⟨hc1, hf1⟩ := bcell hb1; have hz1 := hb1.size; (try simp at hz1); (try simp only [heap_drew, World.heap_drewN] at hz1); (try simp only [heap_drew, World.heap_drewN] at hc1); (try simp only [heap_drew, World.heap_drewN] at hf1); (try have hs1 := Nat.lt_of_succ_le hz1); (try have hs2 := Nat.lt_of_succ_lt hs1); (try have y0 : w.heap.size < w1.heap.size := by omega); (try have y1 : w.heap.size + 1 < w1.heap.size := by omega); (try have y2 : w.heap.size + 2 < w1.heap.size := by omega)))
    go_ret
    refine ⟨rfl, ?_⟩
    (repeat' (first | assumption | exact Below.refl _ _ | exact Below.size (by assumption) | (refine Below.setCell ?_ ?_ _) | (refine Below.alloc ?_ ?_ _) | (refine Below.drew ?_) | (refine below_drewN ?_ _) | (refine Below.trans ?_ (Below.mono ‹Below _ _ _› ?_)) | omega | (simp; done) | (simp; omega) | (simp at *; omega)))
  · have hft : f = false := by
      cases f with
      | false => rfl
      | true => exact absurd (hany.2 (hf.1 rfl)) hkn
    rw [if_neg hkn] at S
    subst hft
    clear hk hany hkn hf ht h2
    go_enter Tryz.func6, Tryz.ntmps6
    go_wp2_with (first | (go_at_call 19; (with_reducible refine (S.out).mono ?_); rintro e w1 ⟨rfl, hb1⟩; obtain ⟨hc1, hf1⟩ := bcell hb1; have hz1 := hb1.size; (try simp at hz1); (try simp only [heap_drew, World.heap_drewN] at hz1); (try simp only [heap_drew, World.heap_drewN] at hc1); (try simp only [heap_drew, World.heap_drewN] at hf1); (try have hs1 := Nat.lt_of_succ_le hz1); (try have hs2 := Nat.lt_of_succ_lt hs1); (try have y0 : w.heap.size < w1.heap.size := by omega); (try have y1 : w.heap.size + 1 < w1.heap.size := by omega); (try have y2 : w.heap.size + 2 < w1.heap.size := by omega)))
    go_ret
    refine ⟨rfl, ?_⟩
    (repeat' (first | assumption | exact Below.refl _ _ | exact Below.size (by assumption) | (refine Below.setCell ?_ ?_ _) | (refine Below.alloc ?_ ?_ _) | (refine Below.drew ?_) | (refine below_drewN ?_ _) | (refine Below.trans ?_ (Below.mono ‹Below _ _ _› ?_)) | omega | (simp; done) | (simp; omega) | (simp at *; omega)))
set_option maxRecDepth 100000 in
theorem p_xinv (nm nd : ByteArray) (ev vol tot : Int) (h1 : nm.size ≤ maxLen) (h2 : nd.size ≤ maxLen) (f : Bool) (hf : f = !validB nm nd ev vol tot) (w : World) : Calls Tryz.prog 20 #[.agg #[.string nm, .string nd, .int .i64 ev, .int .i64 vol, .int .i64 tot]] w fun e w' => e = .returned (.bool f) ∧ Below w.heap.size w w' := by
  subst hf
  have S := Lib.hid fun w => tvalid nm nd ev vol tot h1 h2 w
  clear h1 h2
  generalize validB nm nd ev vol tot = v at S ⊢
  go_enter Tryz.func20, Tryz.ntmps20
  go_wp2_with (first | (go_at_call 16; (with_reducible refine (S.out _).mono ?_); rintro e w1 ⟨rfl, hb1⟩; obtain ⟨hc1, hf1⟩ := bcell hb1; have hz1 := hb1.size; (try simp at hz1); (try simp only [heap_drew, World.heap_drewN] at hz1); (try simp only [heap_drew, World.heap_drewN] at hc1); (try simp only [heap_drew, World.heap_drewN] at hf1); (try have hs1 := Nat.lt_of_succ_le hz1); (try have hs2 := Nat.lt_of_succ_lt hs1); (try have y0 : w.heap.size < w1.heap.size := by omega); (try have y1 : w.heap.size + 1 < w1.heap.size := by omega); (try have y2 : w.heap.size + 2 < w1.heap.size := by omega)))
  go_ret
  exact ⟨rfl, by (repeat' (first | assumption | exact Below.refl _ _ | exact Below.size (by assumption) | (refine Below.setCell ?_ ?_ _) | (refine Below.alloc ?_ ?_ _) | (refine Below.drew ?_) | (refine below_drewN ?_ _) | (refine Below.trans ?_ (Below.mono ‹Below _ _ _› ?_)) | omega | (simp; done) | (simp; omega) | (simp at *; omega)))⟩
set_option maxRecDepth 100000 in
set_option maxHeartbeats 2000000 in
theorem find_xinv (A : Option Addr) (n c k : Nat) (P : Pms) (w : World) (h2 : n ≤ 2000) (ht : PmS w A n P) (hk : FirstAt (fun j => !validB (P.Nm j) (P.Nd j) (P.Ev j) (P.Vol j) (P.Tot j)) n k) (v : Int) (hv : v = if k < n then (k : Int) else -1) :
    Calls Tryz.prog 19 #[.slice A n c, .func (.func 20) #[] #[]] w fun e w' => e = .returned (.int .i64 v) ∧ Below w.heap.size w w' := by
  have HT := Lib.hid ht
  have HK := Lib.hid hk
  have H2 := Lib.hid h2
  have HV := Lib.hid hv
  clear ht hk h2 hv
  go_enter Tryz.func19, Tryz.ntmps19
  go_wp2_with fail
  go_loopw [8] (fun u wr => ∃ i : Nat, Hid (i ≤ n ∧ i ≤ k) ∧ u = .int .i64 i ∧ Hid (Below w.heap.size w wr)) (fun u _ => n - (RowKit.intOf u).toNat)
  case atStart => exact ⟨0, ⟨Nat.zero_le _, Nat.zero_le _⟩, rfl, Below.refl _ _⟩
  case round =>
    obtain ⟨i, Hi, rfl, HW⟩ := hrel
    by_cases hlt : i < n
    · have T0 : decide ((i : Int) < (n : Int)) = true := by simp <;> omega
      have T0' : decide (i < n) = true := decide_eq_true hlt
      obtain ⟨i', hi'⟩ : ∃ z, z = i + 1 := ⟨_, rfl⟩
      have x0 : IntKind.i64.wrap ((i : Int) + 1) = (i' : Int) := by have := H2.out; rw [IntKind.wrap_i64]; omega
      obtain ⟨b, off, rfl, hb, c0, c1, c2, c3, c4, z1, z2⟩ := (HT.out.below (Nat.le_refl _) HW.out).at hlt

      have k0 : (0 : Int) ≤ (i : Int) := by omega
      have k1 : (i : Int) < (n : Int) := by omega
      have HMS : Hid (n - (RowKit.intOf (Value.int .i64 (i' : Int))).toNat < n - (RowKit.intOf (Value.int .i64 (i : Int))).toNat) := by show _ < _; simp [RowKit.intOf]; omega
      rcases first_at HK.out hlt Hi.out.2 with ⟨hp, hik⟩ | ⟨hp, hik⟩
      · have KK := Lib.hid fun w => (p_xinv (P.Nm i) (P.Nd i) (P.Ev i) (P.Vol i) (P.Tot i) z1 z2 true hp.symm w)
        have HR : Hid ((i : Int) = v) := by show (i : Int) = v; rw [HV.out, hik, if_pos (by omega)]
        clear hi' hp hik
        go_wp2_with (first | (go_at_call 20; (with_reducible refine (KK.out _).mono ?_); rintro e w1 ⟨rfl, hb1⟩; obtain ⟨hc1, hf1⟩ := bcell hb1; have hz1 := hb1.size; (try simp at hz1); (try simp only [heap_drew, World.heap_drewN] at hz1); (try simp only [heap_drew, World.heap_drewN] at hc1); (try simp only [heap_drew, World.heap_drewN] at hf1); (try have hs1 := Nat.lt_of_succ_le hz1); (try have hs2 := Nat.lt_of_succ_lt hs1); (try have y0 : w.heap.size < w1.heap.size := by omega); (try have y1 : w.heap.size + 1 < w1.heap.size := by omega); (try have y2 : w.heap.size + 2 < w1.heap.size := by omega)))
        go_ret
        refine ⟨ret_int HR.out, ?_⟩
        have := HW.out
        (repeat' (first | assumption | exact Below.refl _ _ | exact Below.size (by assumption) | (refine Below.setCell ?_ ?_ _) | (refine Below.alloc ?_ ?_ _) | (refine Below.drew ?_) | (refine below_drewN ?_ _) | (refine Below.trans ?_ (Below.mono ‹Below _ _ _› ?_)) | omega | (simp; done) | (simp; omega) | (simp at *; omega)))
      · have KK := Lib.hid fun w => (p_xinv (P.Nm i) (P.Nd i) (P.Ev i) (P.Vol i) (P.Tot i) z1 z2 false hp.symm w)
        have HI' : Hid (i' ≤ n ∧ i' ≤ k) := by show _ ∧ _; omega
        clear hi' hp hik
        go_wp2_with (first | (go_at_call 20; (with_reducible refine (KK.out _).mono ?_); rintro e w1 ⟨rfl, hb1⟩; obtain ⟨hc1, hf1⟩ := bcell hb1; have hz1 := hb1.size; (try simp at hz1); (try simp only [heap_drew, World.heap_drewN] at hz1); (try simp only [heap_drew, World.heap_drewN] at hc1); (try simp only [heap_drew, World.heap_drewN] at hf1); (try have hs1 := Nat.lt_of_succ_le hz1); (try have hs2 := Nat.lt_of_succ_lt hs1); (try have y0 : w.heap.size < w1.heap.size := by omega); (try have y1 : w.heap.size + 1 < w1.heap.size := by omega); (try have y2 : w.heap.size + 2 < w1.heap.size := by omega)))
        go_roundw
        case rel => exact ⟨i', HI', rfl, by have := HW.out; (repeat' (first | assumption | exact Below.refl _ _ | exact Below.size (by assumption) | (refine Below.setCell ?_ ?_ _) | (refine Below.alloc ?_ ?_ _) | (refine Below.drew ?_) | (refine below_drewN ?_ _) | (refine Below.trans ?_ (Below.mono ‹Below _ _ _› ?_)) | omega | (simp; done) | (simp; omega) | (simp at *; omega)))⟩
        case measure => exact HMS.out
    · have e : i = n := by have := Hi.out; omega
      have HR : Hid ((-1 : Int) = v) := by show (-1 : Int) = v; rw [HV.out, if_neg (by have := Hi.out; omega)]
      have T0 : decide ((i : Int) < (n : Int)) = false := by simp <;> omega
      have T0' : decide (i < n) = false := decide_eq_false hlt
      clear e hlt
      go_wp2_with fail
      go_ret
      exact ⟨ret_int HR.out, HW.out⟩
theorem has_xinv (A : Option Addr) (n c : Nat) (P : Pms) (w : World) (h2 : n ≤ 2000) (ht : PmS w A n P) (f : Bool) (hf : f = true ↔ ∃ j, j < n ∧ (fun j => !validB (P.Nm j) (P.Nd j) (P.Ev j) (P.Vol j) (P.Tot j)) j = true) :
    Calls Tryz.prog 6 #[.slice A n c, .func (.func 20) #[] #[]] w fun e w' => e = .returned (.bool f) ∧ Below w.heap.size w w' := by
  obtain ⟨k, hk⟩ := first_ex (fun j => !validB (P.Nm j) (P.Nd j) (P.Ev j) (P.Vol j) (P.Tot j)) n
  have hany := first_any hk
  have S := Lib.hid (find_xinv A n c k P w h2 ht hk _ rfl)
  by_cases hkn : k < n
  · have hft : f = true := hf.2 (hany.1 hkn)
    rw [if_pos hkn] at S
    have t : decide ((0 : Int) ≤ (k : Int)) = true := decide_eq_true (by omega)
    subst hft
    clear hk hany hkn hf ht h2
    go_enter Tryz.func6, Tryz.ntmps6
    go_wp2_with (first | (go_at_call 19; (with_reducible refine (S.out).mono ?_); rintro e w1 ⟨rfl, hb1⟩; obtain ⟨hc1, hf1⟩ := bcell hb1; have hz1 := hb1.size; (try simp at hz1); (try simp only [heap_drew, World.heap_drewN] at hz1); (try simp only [heap_drew, World.heap_drewN] at hc1); (try simp only [heap_drew, World.heap_drewN] at hf1); (try have hs1 := Nat.lt_of_succ_le hz1); (try have hs2 := Nat.lt_of_succ_lt hs1); (try have y0 : w.heap.size < w1.heap.size := by omega); (try have y1 : w.heap.size + 1 < w1.heap.size := by omega); (try have y2 : w.heap.size + 2 < w1.heap.size := by omega)))
    go_ret
    refine ⟨rfl, ?_⟩
    (repeat' (first | assumption | exact Below.refl _ _ | exact Below.size (by assumption) | (refine Below.setCell ?_ ?_ _) | (refine Below.alloc ?_ ?_ _) | (refine Below.drew ?_) | (refine below_drewN ?_ _) | (refine Below.trans ?_ (Below.mono ‹Below _ _ _› ?_)) | omega | (simp; done) | (simp; omega) | (simp at *; omega)))
  · have hft : f = false := by
      cases f with
      | false => rfl
      | true => exact absurd (hany.2 (hf.1 rfl)) hkn
    rw [if_neg hkn] at S
    subst hft
    clear hk hany hkn hf ht h2
    go_enter Tryz.func6, Tryz.ntmps6
    go_wp2_with (first | (go_at_call 19; (with_reducible refine (S.out).mono ?_); rintro e w1 ⟨rfl, hb1⟩; obtain ⟨hc1, hf1⟩ := bcell hb1; have hz1 := hb1.size; (try simp at hz1); (try simp only [heap_drew, World.heap_drewN] at hz1); (try simp only [heap_drew, World.heap_drewN] at hc1); (try simp only [heap_drew, World.heap_drewN] at hf1); (try have hs1 := Nat.lt_of_succ_le hz1); (try have hs2 := Nat.lt_of_succ_lt hs1); (try have y0 : w.heap.size < w1.heap.size := by omega); (try have y1 : w.heap.size + 1 < w1.heap.size := by omega); (try have y2 : w.heap.size + 2 < w1.heap.size := by omega)))
    go_ret
    refine ⟨rfl, ?_⟩
    (repeat' (first | assumption | exact Below.refl _ _ | exact Below.size (by assumption) | (refine Below.setCell ?_ ?_ _) | (refine Below.alloc ?_ ?_ _) | (refine Below.drew ?_) | (refine below_drewN ?_ _) | (refine Below.trans ?_ (Below.mono ‹Below _ _ _› ?_)) | omega | (simp; done) | (simp; omega) | (simp at *; omega)))
set_option maxRecDepth 100000 in
theorem p_binv (nm nd : ByteArray) (ev vol tot : Int) (h1 : nm.size ≤ maxLen) (h2 : nd.size ≤ maxLen) (f : Bool) (hf : f = !validB nm nd ev vol tot) (w : World) : Calls Tryz.prog 15 #[.agg #[.string nm, .string nd, .int .i64 ev, .int .i64 vol, .int .i64 tot]] w fun e w' => e = .returned (.bool f) ∧ Below w.heap.size w w' := by
  subst hf
  have S := Lib.hid fun w => tvalid nm nd ev vol tot h1 h2 w
  clear h1 h2
  generalize validB nm nd ev vol tot = v at S ⊢
  go_enter Tryz.func15, Tryz.ntmps15
  go_wp2_with (first | (go_at_call 16; (with_reducible refine (S.out _).mono ?_); rintro e w1 ⟨rfl, hb1⟩; obtain ⟨hc1, hf1⟩ := bcell hb1; have hz1 := hb1.size; (try simp at hz1); (try simp only [heap_drew, World.heap_drewN] at hz1); (try simp only [heap_drew, World.heap_drewN] at hc1); (try simp only [heap_drew, World.heap_drewN] at hf1); (try have hs1 := Nat.lt_of_succ_le hz1); (try have hs2 := Nat.lt_of_succ_lt hs1); (try have y0 : w.heap.size < w1.heap.size := by omega); (try have y1 : w.heap.size + 1 < w1.heap.size := by omega); (try have y2 : w.heap.size + 2 < w1.heap.size := by omega)))
  go_ret
  exact ⟨rfl, by (repeat' (first | assumption | exact Below.refl _ _ | exact Below.size (by assumption) | (refine Below.setCell ?_ ?_ _) | (refine Below.alloc ?_ ?_ _) | (refine Below.drew ?_) | (refine below_drewN ?_ _) | (refine Below.trans ?_ (Below.mono ‹Below _ _ _› ?_)) | omega | (simp; done) | (simp; omega) | (simp at *; omega)))⟩
set_option maxRecDepth 100000 in
set_option maxHeartbeats 2000000 in
theorem find_binv (A : Option Addr) (n c k : Nat) (P : Pms) (w : World) (h2 : n ≤ 2000) (ht : PmS w A n P) (hk : FirstAt (fun j => !validB (P.Nm j) (P.Nd j) (P.Ev j) (P.Vol j) (P.Tot j)) n k) (v : Int) (hv : v = if k < n then (k : Int) else -1) :
    Calls Tryz.prog 19 #[.slice A n c, .func (.func 15) #[] #[]] w fun e w' => e = .returned (.int .i64 v) ∧ Below w.heap.size w w' := by
  have HT := Lib.hid ht
  have HK := Lib.hid hk
  have H2 := Lib.hid h2
  have HV := Lib.hid hv
  clear ht hk h2 hv
  go_enter Tryz.func19, Tryz.ntmps19
  go_wp2_with fail
  go_loopw [8] (fun u wr => ∃ i : Nat, Hid (i ≤ n ∧ i ≤ k) ∧ u = .int .i64 i ∧ Hid (Below w.heap.size w wr)) (fun u _ => n - (RowKit.intOf u).toNat)
  case atStart => exact ⟨0, ⟨Nat.zero_le _, Nat.zero_le _⟩, rfl, Below.refl _ _⟩
  case round =>
    obtain ⟨i, Hi, rfl, HW⟩ := hrel
    by_cases hlt : i < n
    · have T0 : decide ((i : Int) < (n : Int)) = true := by simp <;> omega
      have T0' : decide (i < n) = true := decide_eq_true hlt
      obtain ⟨i', hi'⟩ : ∃ z, z = i + 1 := ⟨_, rfl⟩
      have x0 : IntKind.i64.wrap ((i : Int) + 1) = (i' : Int) := by have := H2.out; rw [IntKind.wrap_i64]; omega
      obtain ⟨b, off, rfl, hb, c0, c1, c2, c3, c4, z1, z2⟩ := (HT.out.below (Nat.le_refl _) HW.out).at hlt

      have k0 : (0 : Int) ≤ (i : Int) := by omega
      have k1 : (i : Int) < (n : Int) := by omega
      have HMS : Hid (n - (RowKit.intOf (Value.int .i64 (i' : Int))).toNat < n - (RowKit.intOf (Value.int .i64 (i : Int))).toNat) := by show _ < _; simp [RowKit.intOf]; omega
      rcases first_at HK.out hlt Hi.out.2 with ⟨hp, hik⟩ | ⟨hp, hik⟩
      · have KK := Lib.hid fun w => (p_binv (P.Nm i) (P.Nd i) (P.Ev i) (P.Vol i) (P.Tot i) z1 z2 true hp.symm w)
        have HR : Hid ((i : Int) = v) := by show (i : Int) = v; rw [HV.out, hik, if_pos (by omega)]
        clear hi' hp hik
        go_wp2_with (first | (go_at_call 15; (with_reducible refine (KK.out _).mono ?_); rintro e w1 ⟨rfl, hb1⟩; obtain ⟨hc1, hf1⟩ := bcell hb1; have hz1 := hb1.size; (try simp at hz1); (try simp only [heap_drew, World.heap_drewN] at hz1); (try simp only [heap_drew, World.heap_drewN] at hc1); (try simp only [heap_drew, World.heap_drewN] at hf1); (try have hs1 := Nat.lt_of_succ_le hz1); (try have hs2 := Nat.lt_of_succ_lt hs1); (try have y0 : w.heap.size < w1.heap.size := by omega); (try have y1 : w.heap.size + 1 < w1.heap.size := by omega); (try have y2 : w.heap.size + 2 < w1.heap.size := by omega)))
        go_ret
        refine ⟨ret_int HR.out, ?_⟩
        have := HW.out
        (repeat' (first | assumption | exact Below.refl _ _ | exact Below.size (by assumption) | (refine Below.setCell ?_ ?_ _) | (refine Below.alloc ?_ ?_ _) | (refine Below.drew ?_) | (refine below_drewN ?_ _) | (refine Below.trans ?_ (Below.mono ‹Below _ _ _› ?_)) | omega | (simp; done) | (simp; omega) | (simp at *; omega)))
      · have KK := Lib.hid fun w => (p_binv (P.Nm i) (P.Nd i) (P.Ev i) (P.Vol i) (P.Tot i) z1 z2 false hp.symm w)
        have HI' : Hid (i' ≤ n ∧ i' ≤ k) := by show _ ∧ _; omega
        clear hi' hp hik
        go_wp2_with (first | (go_at_call 15; (with_reducible refine (KK.out _).mono ?_); rintro e w1 ⟨rfl, hb1⟩; obtain ⟨hc1, hf1⟩ := bcell hb1; have hz1 := hb1.size; (try simp at hz1); (try simp only [heap_drew, World.heap_drewN] at hz1); (try simp only [heap_drew, World.heap_drewN] at hc1); (try simp only [heap_drew, World.heap_drewN] at hf1); (try have hs1 := Nat.lt_of_succ_le hz1); (try have hs2 := Nat.lt_of_succ_lt hs1); (try have y0 : w.heap.size < w1.heap.size := by omega); (try have y1 : w.heap.size + 1 < w1.heap.size := by omega); (try have y2 : w.heap.size + 2 < w1.heap.size := by omega)))
        go_roundw
        case rel => exact ⟨i', HI', rfl, by have := HW.out; (repeat' (first | assumption | exact Below.refl _ _ | exact Below.size (by assumption) | (refine Below.setCell ?_ ?_ _) | (refine Below.alloc ?_ ?_ _) | (refine Below.drew ?_) | (refine below_drewN ?_ _) | (refine Below.trans ?_ (Below.mono ‹Below _ _ _› ?_)) | omega | (simp; done) | (simp; omega) | (simp at *; omega)))⟩
        case measure => exact HMS.out
    · have e : i = n := by have := Hi.out; omega
      have HR : Hid ((-1 : Int) = v) := by show (-1 : Int) = v; rw [HV.out, if_neg (by have := Hi.out; omega)]
      have T0 : decide ((i : Int) < (n : Int)) = false := by simp <;> omega
      have T0' : decide (i < n) = false := decide_eq_false hlt
      clear e hlt
      go_wp2_with fail
      go_ret
      exact ⟨ret_int HR.out, HW.out⟩
theorem has_binv (A : Option Addr) (n c : Nat) (P : Pms) (w : World) (h2 : n ≤ 2000) (ht : PmS w A n P) (f : Bool) (hf : f = true ↔ ∃ j, j < n ∧ (fun j => !validB (P.Nm j) (P.Nd j) (P.Ev j) (P.Vol j) (P.Tot j)) j = true) :
    Calls Tryz.prog 6 #[.slice A n c, .func (.func 15) #[] #[]] w fun e w' => e = .returned (.bool f) ∧ Below w.heap.size w w' := by
  obtain ⟨k, hk⟩ := first_ex (fun j => !validB (P.Nm j) (P.Nd j) (P.Ev j) (P.Vol j) (P.Tot j)) n
  have hany := first_any hk
  have S := Lib.hid (find_binv A n c k P w h2 ht hk _ rfl)
  by_cases hkn : k < n
  · have hft : f = true := hf.2 (hany.1 hkn)
    rw [if_pos hkn] at S
    have t : decide ((0 : Int) ≤ (k : Int)) = true := decide_eq_true (by omega)
    subst hft
    clear hk hany hkn hf ht h2
    go_enter Tryz.func6, Tryz.ntmps6
    go_wp2_with (first | (go_at_call 19; (with_reducible refine (S.out).mono ?_); rintro e w1 ⟨rfl, hb1⟩; obtain ⟨hc1, hf1⟩ := bcell hb1; have hz1 := hb1.size; (try simp at hz1); (try simp only [heap_drew, World.heap_drewN] at hz1); (try simp only [heap_drew, World.heap_drewN] at hc1); (try simp only [heap_drew, World.heap_drewN] at hf1); (try have hs1 := Nat.lt_of_succ_le hz1); (try have hs2 := Nat.lt_of_succ_lt hs1); (try have y0 : w.heap.size < w1.heap.size := by omega); (try have y1 : w.heap.size + 1 < w1.heap.size := by omega); (try have y2 : w.heap.size + 2 < w1.heap.size := by omega)))
    go_ret
    refine ⟨rfl, ?_⟩
    (repeat' (first | assumption | exact Below.refl _ _ | exact Below.size (by assumption) | (refine Below.setCell ?_ ?_ _) | (refine Below.alloc ?_ ?_ _) | (refine Below.drew ?_) | (refine below_drewN ?_ _) | (refine Below.trans ?_ (Below.mono ‹Below _ _ _› ?_)) | omega | (simp; done) | (simp; omega) | (simp at *; omega)))
  · have hft : f = false := by
      cases f with
      | false => rfl
      | true => exact absurd (hany.2 (hf.1 rfl)) hkn
    rw [if_neg hkn] at S
    subst hft
    clear hk hany hkn hf ht h2
    go_enter Tryz.func6, Tryz.ntmps6
    go_wp2_with (first | (go_at_call 19; (with_reducible refine (S.out).mono ?_); rintro e w1 ⟨rfl, hb1⟩; obtain ⟨hc1, hf1⟩ := bcell hb1; have hz1 := hb1.size; (try simp at hz1); (try simp only [heap_drew, World.heap_drewN] at hz1); (try simp only [heap_drew, World.heap_drewN] at hc1); (try simp only [heap_drew, World.heap_drewN] at hf1); (try have hs1 := Nat.lt_of_succ_le hz1); (try have hs2 := Nat.lt_of_succ_lt hs1); (try have y0 : w.heap.size < w1.heap.size := by omega); (try have y1 : w.heap.size + 1 < w1.heap.size := by omega); (try have y2 : w.heap.size + 2 < w1.heap.size := by omega)))
    go_ret
    refine ⟨rfl, ?_⟩
    (repeat' (first | assumption | exact Below.refl _ _ | exact Below.size (by assumption) | (refine Below.setCell ?_ ?_ _) | (refine Below.alloc ?_ ?_ _) | (refine Below.drew ?_) | (refine below_drewN ?_ _) | (refine Below.trans ?_ (Below.mono ‹Below _ _ _› ?_)) | omega | (simp; done) | (simp; omega) | (simp at *; omega)))
set_option maxRecDepth 100000 in
theorem p_rinv (nm nd : ByteArray) (ev vol tot : Int) (h1 : nm.size ≤ maxLen) (h2 : nd.size ≤ maxLen) (f : Bool) (hf : f = !validB nm nd ev vol tot) (w : World) : Calls Tryz.prog 9 #[.agg #[.string nm, .string nd, .int .i64 ev, .int .i64 vol, .int .i64 tot]] w fun e w' => e = .returned (.bool f) ∧ Below w.heap.size w w' := by
  subst hf
  have S := Lib.hid fun w => rvalid nm nd ev vol tot h1 h2 w
  clear h1 h2
  generalize validB nm nd ev vol tot = v at S ⊢
  go_enter Tryz.func9, Tryz.ntmps9
  go_wp2_with (first | (go_at_call 10; (with_reducible refine (S.out _).mono ?_); rintro e w1 ⟨rfl, hb1⟩; obtain ⟨hc1, hf1⟩ := bcell hb1; have hz1 := hb1.size; (try simp at hz1); (try simp only [heap_drew, World.heap_drewN] at hz1); (try simp only [heap_drew, World.heap_drewN] at hc1); (try simp only [heap_drew, World.heap_drewN] at hf1); (try have hs1 := Nat.lt_of_succ_le hz1); (try have hs2 := Nat.lt_of_succ_lt hs1); (try have y0 : w.heap.size < w1.heap.size := by omega); (try have y1 : w.heap.size + 1 < w1.heap.size := by omega); (try have y2 : w.heap.size + 2 < w1.heap.size := by omega)))
  go_ret
  exact ⟨rfl, by (repeat' (first | assumption | exact Below.refl _ _ | exact Below.size (by assumption) | (refine Below.setCell ?_ ?_ _) | (refine Below.alloc ?_ ?_ _) | (refine Below.drew ?_) | (refine below_drewN ?_ _) | (refine Below.trans ?_ (Below.mono ‹Below _ _ _› ?_)) | omega | (simp; done) | (simp; omega) | (simp at *; omega)))⟩
set_option maxRecDepth 100000 in
set_option maxHeartbeats 2000000 in
theorem find_rinv (A : Option Addr) (n c k : Nat) (P : Pms) (w : World) (h2 : n ≤ 2000) (ht : PmS w A n P) (hk : FirstAt (fun j => !validB (P.Nm j) (P.Nd j) (P.Ev j) (P.Vol j) (P.Tot j)) n k) (v : Int) (hv : v = if k < n then (k : Int) else -1) :
    Calls Tryz.prog 19 #[.slice A n c, .func (.func 9) #[] #[]] w fun e w' => e = .returned (.int .i64 v) ∧ Below w.heap.size w w' := by
  have HT := Lib.hid ht
  have HK := Lib.hid hk
  have H2 := Lib.hid h2
  have HV := Lib.hid hv
  clear ht hk h2 hv
  go_enter Tryz.func19, Tryz.ntmps19
  go_wp2_with fail
  go_loopw [8] (fun u wr => ∃ i : Nat, Hid (i ≤ n ∧ i ≤ k) ∧ u = .int .i64 i ∧ Hid (Below w.heap.size w wr)) (fun u _ => n - (RowKit.intOf u).toNat)
  case atStart => exact ⟨0, ⟨Nat.zero_le _, Nat.zero_le _⟩, rfl, Below.refl _ _⟩
  case round =>
    obtain ⟨i, Hi, rfl, HW⟩ := hrel
    by_cases hlt : i < n
    · have T0 : decide ((i : Int) < (n : Int)) = true := by simp <;> omega
      have T0' : decide (i < n) = true := decide_eq_true hlt
      obtain ⟨i', hi'⟩ : ∃ z, z = i + 1 := ⟨_, rfl⟩
      have x0 : IntKind.i64.wrap ((i : Int) + 1) = (i' : Int) := by have := H2.out; rw [IntKind.wrap_i64]; omega
      obtain ⟨b, off, rfl, hb, c0, c1, c2, c3, c4, z1, z2⟩ := (HT.out.below (Nat.le_refl _) HW.out).at hlt

      have k0 : (0 : Int) ≤ (i : Int) := by omega
      have k1 : (i : Int) < (n : Int) := by omega
      have HMS : Hid (n - (RowKit.intOf (Value.int .i64 (i' : Int))).toNat < n - (RowKit.intOf (Value.int .i64 (i : Int))).toNat) := by show _ < _; simp [RowKit.intOf]; omega
      rcases first_at HK.out hlt Hi.out.2 with ⟨hp, hik⟩ | ⟨hp, hik⟩
      · have KK := Lib.hid fun w => (p_rinv (P.Nm i) (P.Nd i) (P.Ev i) (P.Vol i) (P.Tot i) z1 z2 true hp.symm w)
        have HR : Hid ((i : Int) = v) := by show (i : Int) = v; rw [HV.out, hik, if_pos (by omega)]
        clear hi' hp hik
        go_wp2_with (first | (go_at_call 9; (with_reducible refine (KK.out _).mono ?_); rintro e w1 ⟨rfl, hb1⟩; obtain ⟨hc1, hf1⟩ := bcell hb1; have hz1 := hb1.size; (try simp at hz1); (try simp only [heap_drew, World.heap_drewN] at hz1); (try simp only [heap_drew, World.heap_drewN] at hc1); (try simp only [heap_drew, World.heap_drewN] at hf1); (try have hs1 := Nat.lt_of_succ_le hz1); (try have hs2 := Nat.lt_of_succ_lt hs1); (try have y0 : w.heap.size < w1.heap.size := by omega); (try have y1 : w.heap.size + 1 < w1.heap.size := by omega); (try have y2 : w.heap.size + 2 < w1.heap.size := by omega)))
        go_ret
        refine ⟨ret_int HR.out, ?_⟩
        have := HW.out
        (repeat' (first | assumption | exact Below.refl _ _ | exact Below.size (by assumption) | (refine Below.setCell ?_ ?_ _) | (refine Below.alloc ?_ ?_ _) | (refine Below.drew ?_) | (refine below_drewN ?_ _) | (refine Below.trans ?_ (Below.mono ‹Below _ _ _› ?_)) | omega | (simp; done) | (simp; omega) | (simp at *; omega)))
      · have KK := Lib.hid fun w => (p_rinv (P.Nm i) (P.Nd i) (P.Ev i) (P.Vol i) (P.Tot i) z1 z2 false hp.symm w)
        have HI' : Hid (i' ≤ n ∧ i' ≤ k) := by show _ ∧ _; omega
        clear hi' hp hik
        go_wp2_with (first | (go_at_call 9; (with_reducible refine (KK.out _).mono ?_); rintro e w1 ⟨rfl, hb1⟩; obtain ⟨hc1, hf1⟩ := bcell hb1; have hz1 := hb1.size; (try simp at hz1); (try simp only [heap_drew, World.heap_drewN] at hz1); (try simp only [heap_drew, World.heap_drewN] at hc1); (try simp only [heap_drew, World.heap_drewN] at hf1); (try have hs1 := Nat.lt_of_succ_le hz1); (try have hs2 := Nat.lt_of_succ_lt hs1); (try have y0 : w.heap.size < w1.heap.size := by omega); (try have y1 : w.heap.size + 1 < w1.heap.size := by omega); (try have y2 : w.heap.size + 2 < w1.heap.size := by omega)))
        go_roundw
        case rel => exact ⟨i', HI', rfl, by have := HW.out; (repeat' (first | assumption | exact Below.refl _ _ | exact Below.size (by assumption) | (refine Below.setCell ?_ ?_ _) | (refine Below.alloc ?_ ?_ _) | (refine Below.drew ?_) | (refine below_drewN ?_ _) | (refine Below.trans ?_ (Below.mono ‹Below _ _ _› ?_)) | omega | (simp; done) | (simp; omega) | (simp at *; omega)))⟩
        case measure => exact HMS.out
    · have e : i = n := by have := Hi.out; omega
      have HR : Hid ((-1 : Int) = v) := by show (-1 : Int) = v; rw [HV.out, if_neg (by have := Hi.out; omega)]
      have T0 : decide ((i : Int) < (n : Int)) = false := by simp <;> omega
      have T0' : decide (i < n) = false := decide_eq_false hlt
      clear e hlt
      go_wp2_with fail
      go_ret
      exact ⟨ret_int HR.out, HW.out⟩
theorem has_rinv (A : Option Addr) (n c : Nat) (P : Pms) (w : World) (h2 : n ≤ 2000) (ht : PmS w A n P) (f : Bool) (hf : f = true ↔ ∃ j, j < n ∧ (fun j => !validB (P.Nm j) (P.Nd j) (P.Ev j) (P.Vol j) (P.Tot j)) j = true) :
    Calls Tryz.prog 6 #[.slice A n c, .func (.func 9) #[] #[]] w fun e w' => e = .returned (.bool f) ∧ Below w.heap.size w w' := by
  obtain ⟨k, hk⟩ := first_ex (fun j => !validB (P.Nm j) (P.Nd j) (P.Ev j) (P.Vol j) (P.Tot j)) n
  have hany := first_any hk
  have S := Lib.hid (find_rinv A n c k P w h2 ht hk _ rfl)
  by_cases hkn : k < n
  · have hft : f = true := hf.2 (hany.1 hkn)
    rw [if_pos hkn] at S
    have t : decide ((0 : Int) ≤ (k : Int)) = true := decide_eq_true (by omega)
    subst hft
    clear hk hany hkn hf ht h2
    go_enter Tryz.func6, Tryz.ntmps6
    go_wp2_with (first | (go_at_call 19; (with_reducible refine (S.out).mono ?_); rintro e w1 ⟨rfl, hb1⟩; obtain ⟨hc1, hf1⟩ := bcell hb1; have hz1 := hb1.size; (try simp at hz1); (try simp only [heap_drew, World.heap_drewN] at hz1); (try simp only [heap_drew, World.heap_drewN] at hc1); (try simp only [heap_drew, World.heap_drewN] at hf1); (try have hs1 := Nat.lt_of_succ_le hz1); (try have hs2 := Nat.lt_of_succ_lt hs1); (try have y0 : w.heap.size < w1.heap.size := by omega); (try have y1 : w.heap.size + 1 < w1.heap.size := by omega); (try have y2 : w.heap.size + 2 < w1.heap.size := by omega)))
    go_ret
    refine ⟨rfl, ?_⟩
    (repeat' (first | assumption | exact Below.refl _ _ | exact Below.size (by assumption) | (refine Below.setCell ?_ ?_ _) | (refine Below.alloc ?_ ?_ _) | (refine Below.drew ?_) | (refine below_drewN ?_ _) | (refine Below.trans ?_ (Below.mono ‹Below _ _ _› ?_)) | omega | (simp; done) | (simp; omega) | (simp at *; omega)))
  · have hft : f = false := by
      cases f with
      | false => rfl
      | true => exact absurd (hany.2 (hf.1 rfl)) hkn
    rw [if_neg hkn] at S
    subst hft
    clear hk hany hkn hf ht h2
    go_enter Tryz.func6, Tryz.ntmps6
    go_wp2_with (first | (go_at_call 19; (with_reducible refine (S.out).mono ?_); rintro e w1 ⟨rfl, hb1⟩; obtain ⟨hc1, hf1⟩ := bcell hb1; have hz1 := hb1.size; (try simp at hz1); (try simp only [heap_drew, World.heap_drewN] at hz1); (try simp only [heap_drew, World.heap_drewN] at hc1); (try simp only [heap_drew, World.heap_drewN] at hf1); (try have hs1 := Nat.lt_of_succ_le hz1); (try have hs2 := Nat.lt_of_succ_lt hs1); (try have y0 : w.heap.size < w1.heap.size := by omega); (try have y1 : w.heap.size + 1 < w1.heap.size := by omega); (try have y2 : w.heap.size + 2 < w1.heap.size := by omega)))
    go_ret
    refine ⟨rfl, ?_⟩
    (repeat' (first | assumption | exact Below.refl _ _ | exact Below.size (by assumption) | (refine Below.setCell ?_ ?_ _) | (refine Below.alloc ?_ ?_ _) | (refine Below.drew ?_) | (refine below_drewN ?_ _) | (refine Below.trans ?_ (Below.mono ‹Below _ _ _› ?_)) | omega | (simp; done) | (simp; omega) | (simp at *; omega)))
set_option maxRecDepth 100000 in
theorem p_lng (nm nd : ByteArray) (ev vol tot : Int) (f : Bool) (hf : f = decide (60 < nm.size ∨ 60 < nd.size)) (w : World) : Calls Tryz.prog 7 #[.agg #[.string nm, .string nd, .int .i64 ev, .int .i64 vol, .int .i64 tot]] w fun e w' => e = .returned (.bool f) ∧ Below w.heap.size w w' := by
  subst hf
  by_cases h0 : 60 < nm.size
  case pos =>
    have t0_0 : decide ((60 : Int) < (nm.size : Int)) = true := decide_eq_true (by omega)
    have t0_1 : decide (60 < nm.size) = true := decide_eq_true (by omega)
    rw [decide_eq_true (Or.inl h0)]
    clear h0
    go_enter Tryz.func7, Tryz.ntmps7
    go_wp2_with fail
    go_ret
    exact ⟨rfl, by (repeat' (first | assumption | exact Below.refl _ _ | exact Below.size (by assumption) | (refine Below.setCell ?_ ?_ _) | (refine Below.alloc ?_ ?_ _) | (refine Below.drew ?_) | (refine below_drewN ?_ _) | (refine Below.trans ?_ (Below.mono ‹Below _ _ _› ?_)) | omega | (simp; done) | (simp; omega) | (simp at *; omega)))⟩
  have t0_0 : decide ((60 : Int) < (nm.size : Int)) = false := decide_eq_false (by omega)
  have t0_1 : decide (60 < nm.size) = false := decide_eq_false (by omega)
  by_cases h1 : 60 < nd.size
  case pos =>
    have t1_0 : decide ((60 : Int) < (nd.size : Int)) = true := decide_eq_true (by omega)
    have t1_1 : decide (60 < nd.size) = true := decide_eq_true (by omega)
    rw [decide_eq_true (Or.inr (h1))]
    clear h0 h1
    go_enter Tryz.func7, Tryz.ntmps7
    go_wp2_with fail
    go_ret
    exact ⟨rfl, by (repeat' (first | assumption | exact Below.refl _ _ | exact Below.size (by assumption) | (refine Below.setCell ?_ ?_ _) | (refine Below.alloc ?_ ?_ _) | (refine Below.drew ?_) | (refine below_drewN ?_ _) | (refine Below.trans ?_ (Below.mono ‹Below _ _ _› ?_)) | omega | (simp; done) | (simp; omega) | (simp at *; omega)))⟩
  have t1_0 : decide ((60 : Int) < (nd.size : Int)) = false := decide_eq_false (by omega)
  have t1_1 : decide (60 < nd.size) = false := decide_eq_false (by omega)
  rw [decide_eq_false (show ¬ (60 < nm.size ∨ 60 < nd.size) by omega)]
  clear h0 h1
  go_enter Tryz.func7, Tryz.ntmps7
  go_wp2_with fail
  go_ret
  exact ⟨rfl, by (repeat' (first | assumption | exact Below.refl _ _ | exact Below.size (by assumption) | (refine Below.setCell ?_ ?_ _) | (refine Below.alloc ?_ ?_ _) | (refine Below.drew ?_) | (refine below_drewN ?_ _) | (refine Below.trans ?_ (Below.mono ‹Below _ _ _› ?_)) | omega | (simp; done) | (simp; omega) | (simp at *; omega)))⟩
set_option maxRecDepth 100000 in
set_option maxHeartbeats 2000000 in
theorem find_lng (A : Option Addr) (n c k : Nat) (P : Pms) (w : World) (h2 : n ≤ 2000) (ht : PmIn w A n P) (hk : FirstAt (fun j => decide (60 < (P.Nm j).size ∨ 60 < (P.Nd j).size)) n k) (v : Int) (hv : v = if k < n then (k : Int) else -1) :
    Calls Tryz.prog 19 #[.slice A n c, .func (.func 7) #[] #[]] w fun e w' => e = .returned (.int .i64 v) ∧ Below w.heap.size w w' := by
  have HT := Lib.hid ht
  have HK := Lib.hid hk
  have H2 := Lib.hid h2
  have HV := Lib.hid hv
  clear ht hk h2 hv
  go_enter Tryz.func19, Tryz.ntmps19
  go_wp2_with fail
  go_loopw [8] (fun u wr => ∃ i : Nat, Hid (i ≤ n ∧ i ≤ k) ∧ u = .int .i64 i ∧ Hid (Below w.heap.size w wr)) (fun u _ => n - (RowKit.intOf u).toNat)
  case atStart => exact ⟨0, ⟨Nat.zero_le _, Nat.zero_le _⟩, rfl, Below.refl _ _⟩
  case round =>
    obtain ⟨i, Hi, rfl, HW⟩ := hrel
    by_cases hlt : i < n
    · have T0 : decide ((i : Int) < (n : Int)) = true := by simp <;> omega
      have T0' : decide (i < n) = true := decide_eq_true hlt
      obtain ⟨i', hi'⟩ : ∃ z, z = i + 1 := ⟨_, rfl⟩
      have x0 : IntKind.i64.wrap ((i : Int) + 1) = (i' : Int) := by have := H2.out; rw [IntKind.wrap_i64]; omega
      obtain ⟨b, off, rfl, hb, c0, c1, c2, c3, c4⟩ := (HT.out.below (Nat.le_refl _) HW.out).at hlt

      have k0 : (0 : Int) ≤ (i : Int) := by omega
      have k1 : (i : Int) < (n : Int) := by omega
      have HMS : Hid (n - (RowKit.intOf (Value.int .i64 (i' : Int))).toNat < n - (RowKit.intOf (Value.int .i64 (i : Int))).toNat) := by show _ < _; simp [RowKit.intOf]; omega
      rcases first_at HK.out hlt Hi.out.2 with ⟨hp, hik⟩ | ⟨hp, hik⟩
      · have KK := Lib.hid fun w => (p_lng (P.Nm i) (P.Nd i) (P.Ev i) (P.Vol i) (P.Tot i) true hp.symm w)
        have HR : Hid ((i : Int) = v) := by show (i : Int) = v; rw [HV.out, hik, if_pos (by omega)]
        clear hi' hp hik
        go_wp2_with (first | (go_at_call 7; (with_reducible refine (KK.out _).mono ?_); rintro e w1 ⟨rfl, hb1⟩; obtain ⟨hc1, hf1⟩ := bcell hb1; have hz1 := hb1.size; (try simp at hz1); (try simp only [heap_drew, World.heap_drewN] at hz1); (try simp only [heap_drew, World.heap_drewN] at hc1); (try simp only [heap_drew, World.heap_drewN] at hf1); (try have hs1 := Nat.lt_of_succ_le hz1); (try have hs2 := Nat.lt_of_succ_lt hs1); (try have y0 : w.heap.size < w1.heap.size := by omega); (try have y1 : w.heap.size + 1 < w1.heap.size := by omega); (try have y2 : w.heap.size + 2 < w1.heap.size := by omega)))
        go_ret
        refine ⟨ret_int HR.out, ?_⟩
        have := HW.out
        (repeat' (first | assumption | exact Below.refl _ _ | exact Below.size (by assumption) | (refine Below.setCell ?_ ?_ _) | (refine Below.alloc ?_ ?_ _) | (refine Below.drew ?_) | (refine below_drewN ?_ _) | (refine Below.trans ?_ (Below.mono ‹Below _ _ _› ?_)) | omega | (simp; done) | (simp; omega) | (simp at *; omega)))
      · have KK := Lib.hid fun w => (p_lng (P.Nm i) (P.Nd i) (P.Ev i) (P.Vol i) (P.Tot i) false hp.symm w)
        have HI' : Hid (i' ≤ n ∧ i' ≤ k) := by show _ ∧ _; omega
        clear hi' hp hik
        go_wp2_with (first | (go_at_call 7; (with_reducible refine (KK.out _).mono ?_); rintro e w1 ⟨rfl, hb1⟩; obtain ⟨hc1, hf1⟩ := bcell hb1; have hz1 := hb1.size; (try simp at hz1); (try simp only [heap_drew, World.heap_drewN] at hz1); (try simp only [heap_drew, World.heap_drewN] at hc1); (try simp only [heap_drew, World.heap_drewN] at hf1); (try have hs1 := Nat.lt_of_succ_le hz1); (try have hs2 := Nat.lt_of_succ_lt hs1); (try have y0 : w.heap.size < w1.heap.size := by omega); (try have y1 : w.heap.size + 1 < w1.heap.size := by omega); (try have y2 : w.heap.size + 2 < w1.heap.size := by omega)))
        go_roundw
        case rel => exact ⟨i', HI', rfl, by have := HW.out; (repeat' (first | assumption | exact Below.refl _ _ | exact Below.size (by assumption) | (refine Below.setCell ?_ ?_ _) | (refine Below.alloc ?_ ?_ _) | (refine Below.drew ?_) | (refine below_drewN ?_ _) | (refine Below.trans ?_ (Below.mono ‹Below _ _ _› ?_)) | omega | (simp; done) | (simp; omega) | (simp at *; omega)))⟩
        case measure => exact HMS.out
    · have e : i = n := by have := Hi.out; omega
      have HR : Hid ((-1 : Int) = v) := by show (-1 : Int) = v; rw [HV.out, if_neg (by have := Hi.out; omega)]
      have T0 : decide ((i : Int) < (n : Int)) = false := by simp <;> omega
      have T0' : decide (i < n) = false := decide_eq_false hlt
      clear e hlt
      go_wp2_with fail
      go_ret
      exact ⟨ret_int HR.out, HW.out⟩
theorem has_lng (A : Option Addr) (n c : Nat) (P : Pms) (w : World) (h2 : n ≤ 2000) (ht : PmIn w A n P) (f : Bool) (hf : f = true ↔ ∃ j, j < n ∧ (fun j => decide (60 < (P.Nm j).size ∨ 60 < (P.Nd j).size)) j = true) :
    Calls Tryz.prog 6 #[.slice A n c, .func (.func 7) #[] #[]] w fun e w' => e = .returned (.bool f) ∧ Below w.heap.size w w' := by
  obtain ⟨k, hk⟩ := first_ex (fun j => decide (60 < (P.Nm j).size ∨ 60 < (P.Nd j).size)) n
  have hany := first_any hk
  have S := Lib.hid (find_lng A n c k P w h2 ht hk _ rfl)
  by_cases hkn : k < n
  · have hft : f = true := hf.2 (hany.1 hkn)
    rw [if_pos hkn] at S
    have t : decide ((0 : Int) ≤ (k : Int)) = true := decide_eq_true (by omega)
    subst hft
    clear hk hany hkn hf ht h2
    go_enter Tryz.func6, Tryz.ntmps6
    go_wp2_with (first | (go_at_call 19; (with_reducible refine (S.out).mono ?_); rintro e w1 ⟨rfl, hb1⟩; obtain ⟨hc1, hf1⟩ := bcell hb1; have hz1 := hb1.size; (try simp at hz1); (try simp only [heap_drew, World.heap_drewN] at hz1); (try simp only [heap_drew, World.heap_drewN] at hc1); (try simp only [heap_drew, World.heap_drewN] at hf1); (try have hs1 := Nat.lt_of_succ_le hz1); (try have hs2 := Nat.lt_of_succ_lt hs1); (try have y0 : w.heap.size < w1.heap.size := by omega); (try have y1 : w.heap.size + 1 < w1.heap.size := by omega); (try have y2 : w.heap.size + 2 < w1.heap.size := by omega)))
    go_ret
    refine ⟨rfl, ?_⟩
    (repeat' (first | assumption | exact Below.refl _ _ | exact Below.size (by assumption) | (refine Below.setCell ?_ ?_ _) | (refine Below.alloc ?_ ?_ _) | (refine Below.drew ?_) | (refine below_drewN ?_ _) | (refine Below.trans ?_ (Below.mono ‹Below _ _ _› ?_)) | omega | (simp; done) | (simp; omega) | (simp at *; omega)))
  · have hft : f = false := by
      cases f with
      | false => rfl
      | true => exact absurd (hany.2 (hf.1 rfl)) hkn
    rw [if_neg hkn] at S
    subst hft
    clear hk hany hkn hf ht h2
    go_enter Tryz.func6, Tryz.ntmps6
    go_wp2_with (first | (go_at_call 19; (with_reducible refine (S.out).mono ?_); rintro e w1 ⟨rfl, hb1⟩; obtain ⟨hc1, hf1⟩ := bcell hb1; have hz1 := hb1.size; (try simp at hz1); (try simp only [heap_drew, World.heap_drewN] at hz1); (try simp only [heap_drew, World.heap_drewN] at hc1); (try simp only [heap_drew, World.heap_drewN] at hf1); (try have hs1 := Nat.lt_of_succ_le hz1); (try have hs2 := Nat.lt_of_succ_lt hs1); (try have y0 : w.heap.size < w1.heap.size := by omega); (try have y1 : w.heap.size + 1 < w1.heap.size := by omega); (try have y2 : w.heap.size + 2 < w1.heap.size := by omega)))
    go_ret
    refine ⟨rfl, ?_⟩
    (repeat' (first | assumption | exact Below.refl _ _ | exact Below.size (by assumption) | (refine Below.setCell ?_ ?_ _) | (refine Below.alloc ?_ ?_ _) | (refine Below.drew ?_) | (refine below_drewN ?_ _) | (refine Below.trans ?_ (Below.mono ‹Below _ _ _› ?_)) | omega | (simp; done) | (simp; omega) | (simp at *; omega)))
end Go.Proofs.YtigocjhmgmhocaaGreatDoor

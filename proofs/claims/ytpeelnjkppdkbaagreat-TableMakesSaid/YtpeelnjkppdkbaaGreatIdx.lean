/- The searches of Least and Most: the first knot with a Y of at least y, or of more than y. -/
import Derived.Test.YtpeelnjkppdkbaaGreatPieceTwo
import Derived.Test.YtpeelnjkppdkbaaGreatRefD
namespace Go.Proofs.YtpeelnjkppdkbaaGreat
open Go.RowKit
set_option linter.unusedVariables false
set_option linter.unusedSimpArgs false

theorem lpred (a b y : Int) (g : Nat) (f : Bool) (hf : f = decide (y ≤ b)) (w : World) (hc : w.cell? ⟨g, 0, none⟩ = some (.int .i64 y)) (hg : g < w.heap.size) :
    Calls Tryz.prog 37 #[.agg #[.int .i64 a, .int .i64 b], .pointer (some ⟨g, 0, none⟩)] w fun e w' => e = .returned (.bool f) ∧ Below w.heap.size w w' := by
  cases f with
  | true =>
    have T := hf.symm
    clear hf
    go_enter Tryz.func37, Tryz.ntmps37
    go_wp2_with fail
    go_ret
    refine ⟨rfl, ?_⟩
    (repeat' (first | assumption | exact Below.refl _ _ | exact Below.size (by assumption) | (refine Below.setCell ?_ ?_ _) | (refine Below.alloc ?_ ?_ _) | (refine Below.drew ?_) | (refine below_drewN ?_ _) | (refine Below.trans ?_ (Below.mono ‹Below _ _ _› ?_)) | omega | (simp; done) | (simp; omega) | (simp at *; omega)))
  | false =>
    have T := hf.symm
    clear hf
    go_enter Tryz.func37, Tryz.ntmps37
    go_wp2_with fail
    go_ret
    refine ⟨rfl, ?_⟩
    (repeat' (first | assumption | exact Below.refl _ _ | exact Below.size (by assumption) | (refine Below.setCell ?_ ?_ _) | (refine Below.alloc ?_ ?_ _) | (refine Below.drew ?_) | (refine below_drewN ?_ _) | (refine Below.trans ?_ (Below.mono ‹Below _ _ _› ?_)) | omega | (simp; done) | (simp; omega) | (simp at *; omega)))
theorem mpred (a b y : Int) (g : Nat) (f : Bool) (hf : f = decide (y < b)) (w : World) (hc : w.cell? ⟨g, 0, none⟩ = some (.int .i64 y)) (hg : g < w.heap.size) :
    Calls Tryz.prog 39 #[.agg #[.int .i64 a, .int .i64 b], .pointer (some ⟨g, 0, none⟩)] w fun e w' => e = .returned (.bool f) ∧ Below w.heap.size w w' := by
  cases f with
  | true =>
    have T := hf.symm
    clear hf
    go_enter Tryz.func39, Tryz.ntmps39
    go_wp2_with fail
    go_ret
    refine ⟨rfl, ?_⟩
    (repeat' (first | assumption | exact Below.refl _ _ | exact Below.size (by assumption) | (refine Below.setCell ?_ ?_ _) | (refine Below.alloc ?_ ?_ _) | (refine Below.drew ?_) | (refine below_drewN ?_ _) | (refine Below.trans ?_ (Below.mono ‹Below _ _ _› ?_)) | omega | (simp; done) | (simp; omega) | (simp at *; omega)))
  | false =>
    have T := hf.symm
    clear hf
    go_enter Tryz.func39, Tryz.ntmps39
    go_wp2_with fail
    go_ret
    refine ⟨rfl, ?_⟩
    (repeat' (first | assumption | exact Below.refl _ _ | exact Below.size (by assumption) | (refine Below.setCell ?_ ?_ _) | (refine Below.alloc ?_ ?_ _) | (refine Below.drew ?_) | (refine below_drewN ?_ _) | (refine Below.trans ?_ (Below.mono ‹Below _ _ _› ?_)) | omega | (simp; done) | (simp; omega) | (simp at *; omega)))

/-- The first index of which p is true; n, if there is none. -/
def FirstAt (p : Nat → Bool) (n k : Nat) : Prop := k ≤ n ∧ (∀ j, j < k → p j = false) ∧ (k < n → p k = true)
theorem first_ex (p : Nat → Bool) : ∀ n, ∃ k, FirstAt p n k := by
  intro n
  induction n with
  | zero => exact ⟨0, Nat.le_refl _, fun j hj => absurd hj (by omega), fun h => absurd h (by omega)⟩
  | succ n ih =>
    obtain ⟨k, h1, h2, h3⟩ := ih
    by_cases hk : k < n
    · exact ⟨k, by omega, h2, fun _ => h3 hk⟩
    · have : k = n := by omega
      subst this
      cases hp : p k with
      | true => exact ⟨k, by omega, h2, fun _ => hp⟩
      | false => exact ⟨k + 1, by omega, fun j hj => by
          rcases Nat.lt_or_ge j k with h | h
          · exact h2 j h
          · have : j = k := by omega
            rw [this]; exact hp, fun h => absurd h (by omega)⟩
theorem first_at {p : Nat → Bool} {n k i : Nat} (h : FirstAt p n k) (hi : i < n) (hik : i ≤ k) : (p i = true ∧ i = k) ∨ (p i = false ∧ i + 1 ≤ k) := by
  rcases Nat.lt_or_ge i k with h1 | h1
  · exact .inr ⟨h.2.1 i h1, h1⟩
  · have : i = k := by omega
    subst this
    exact .inl ⟨h.2.2 hi, rfl⟩

set_option maxHeartbeats 2000000 in
/-- slices.IndexFunc, of the predicate of Least. -/
theorem findex_least (b off n c k g : Nat) (X Y : Nat → Int) (y : Int) (w : World) (h2 : n ≤ 200) (ht : TabAt w b off n X Y) (hy : w.cell? ⟨g, 0, none⟩ = some (.int .i64 y)) (hg : g < w.heap.size) (hk : FirstAt (fun j => decide (y ≤ Y j)) n k) (v : Int) (hv : v = if k < n then (k : Int) else -1) :
    Calls Tryz.prog 36 #[.slice (some ⟨b, off, none⟩) n c, .func (.func 37) #[] #[.pointer (some ⟨g, 0, none⟩)]] w fun e w' => e = .returned (.int .i64 v) ∧ Below w.heap.size w w' := by
  have HT := Lib.hid ht
  have HK := Lib.hid hk
  have H2 := Lib.hid h2
  have HY := Lib.hid hy
  have HV := Lib.hid hv
  have hb := ht.1
  clear ht hk h2 hy hv
  go_enter Tryz.func36, Tryz.ntmps36
  go_wp2_with fail
  go_loopw [8] (fun u wr => ∃ i : Nat, Hid (i ≤ n ∧ i ≤ k) ∧ u = .int .i64 i ∧ Hid (Below w.heap.size w wr)) (fun u _ => n - (intOf u).toNat)
  case atStart => exact ⟨0, ⟨Nat.zero_le _, Nat.zero_le _⟩, rfl, Below.refl _ _⟩
  case round =>
    obtain ⟨i, Hi, rfl, HW⟩ := hrel
    by_cases hlt : i < n
    · have T0 : decide ((i : Int) < (n : Int)) = true := by simp <;> omega
      have T0' : decide (i < n) = true := decide_eq_true hlt
      obtain ⟨i', hi'⟩ : ∃ z, z = i + 1 := ⟨_, rfl⟩
      have x0 : IntKind.i64.wrap ((i : Int) + 1) = (i' : Int) := by have := H2.out; rw [IntKind.wrap_i64]; omega
      have HTr := Lib.hid (HT.out.below HW.out hb)
      have hX := (HTr.out.2 i hlt).1
      have hY := (HTr.out.2 i hlt).2
      have hyr : wr.cell? ⟨g, 0, none⟩ = some (.int .i64 y) := (HW.out.cell (p := ⟨g, 0, none⟩) hg).trans HY.out
      have hgr : g < wr.heap.size := Nat.lt_of_lt_of_le hg HW.out.size
      have HMS : Hid (n - (intOf (Value.int .i64 (i' : Int))).toNat < n - (intOf (Value.int .i64 (i : Int))).toNat) := by show _ < _; simp [intOf]; omega
      rcases first_at HK.out hlt Hi.out.2 with ⟨hp, hik⟩ | ⟨hp, hik⟩
      · have KK := Lib.hid (lpred (X i) (Y i) y g true hp.symm wr hyr hgr)
        have HR : Hid ((i : Int) = v) := by show (i : Int) = v; rw [HV.out, hik, if_pos (by omega)]
        clear hi' hp hik hyr hgr
        go_wp2_with (first | (go_at_call 37; (with_reducible refine (KK.out).mono ?_); rintro e w1 ⟨rfl, hb1⟩; obtain ⟨hc1, hf1⟩ := bcell hb1; have hz1 := hb1.size; (try simp at hz1); (try simp only [heap_drew, World.heap_drewN] at hz1); (try simp only [heap_drew, World.heap_drewN] at hc1); (try simp only [heap_drew, World.heap_drewN] at hf1); (try have hs1 := Nat.lt_of_succ_le hz1); (try have hs2 := Nat.lt_of_succ_lt hs1); (try have y0 : w.heap.size < w1.heap.size := by omega); (try have y1 : w.heap.size + 1 < w1.heap.size := by omega); (try have y2 : w.heap.size + 2 < w1.heap.size := by omega)))
        go_ret
        refine ⟨ret_int HR.out, ?_⟩
        have := HW.out
        (repeat' (first | assumption | exact Below.refl _ _ | exact Below.size (by assumption) | (refine Below.setCell ?_ ?_ _) | (refine Below.alloc ?_ ?_ _) | (refine Below.drew ?_) | (refine below_drewN ?_ _) | (refine Below.trans ?_ (Below.mono ‹Below _ _ _› ?_)) | omega | (simp; done) | (simp; omega) | (simp at *; omega)))
      · have KK := Lib.hid (lpred (X i) (Y i) y g false hp.symm wr hyr hgr)
        have HI' : Hid (i' ≤ n ∧ i' ≤ k) := by show _ ∧ _; omega
        clear hi' hp hik hyr hgr
        go_wp2_with (first | (go_at_call 37; (with_reducible refine (KK.out).mono ?_); rintro e w1 ⟨rfl, hb1⟩; obtain ⟨hc1, hf1⟩ := bcell hb1; have hz1 := hb1.size; (try simp at hz1); (try simp only [heap_drew, World.heap_drewN] at hz1); (try simp only [heap_drew, World.heap_drewN] at hc1); (try simp only [heap_drew, World.heap_drewN] at hf1); (try have hs1 := Nat.lt_of_succ_le hz1); (try have hs2 := Nat.lt_of_succ_lt hs1); (try have y0 : w.heap.size < w1.heap.size := by omega); (try have y1 : w.heap.size + 1 < w1.heap.size := by omega); (try have y2 : w.heap.size + 2 < w1.heap.size := by omega)))
        go_roundw
        case rel => exact ⟨i', HI', rfl, HW.out.trans (hb1.mono HW.out.size)⟩
        case measure => exact HMS.out
    · have e : i = n := by have := Hi.out; omega
      have HR : Hid ((-1 : Int) = v) := by show (-1 : Int) = v; rw [HV.out, if_neg (by have := Hi.out; omega)]
      have T0' : decide (i < n) = false := decide_eq_false hlt
      clear e hlt
      go_wp2_with fail
      go_ret
      exact ⟨ret_int HR.out, HW.out⟩
set_option maxHeartbeats 2000000 in
/-- slices.IndexFunc, of the predicate of Most. -/
theorem findex_most (b off n c k g : Nat) (X Y : Nat → Int) (y : Int) (w : World) (h2 : n ≤ 200) (ht : TabAt w b off n X Y) (hy : w.cell? ⟨g, 0, none⟩ = some (.int .i64 y)) (hg : g < w.heap.size) (hk : FirstAt (fun j => decide (y < Y j)) n k) (v : Int) (hv : v = if k < n then (k : Int) else -1) :
    Calls Tryz.prog 36 #[.slice (some ⟨b, off, none⟩) n c, .func (.func 39) #[] #[.pointer (some ⟨g, 0, none⟩)]] w fun e w' => e = .returned (.int .i64 v) ∧ Below w.heap.size w w' := by
  have HT := Lib.hid ht
  have HK := Lib.hid hk
  have H2 := Lib.hid h2
  have HY := Lib.hid hy
  have HV := Lib.hid hv
  have hb := ht.1
  clear ht hk h2 hy hv
  go_enter Tryz.func36, Tryz.ntmps36
  go_wp2_with fail
  go_loopw [8] (fun u wr => ∃ i : Nat, Hid (i ≤ n ∧ i ≤ k) ∧ u = .int .i64 i ∧ Hid (Below w.heap.size w wr)) (fun u _ => n - (intOf u).toNat)
  case atStart => exact ⟨0, ⟨Nat.zero_le _, Nat.zero_le _⟩, rfl, Below.refl _ _⟩
  case round =>
    obtain ⟨i, Hi, rfl, HW⟩ := hrel
    by_cases hlt : i < n
    · have T0 : decide ((i : Int) < (n : Int)) = true := by simp <;> omega
      have T0' : decide (i < n) = true := decide_eq_true hlt
      obtain ⟨i', hi'⟩ : ∃ z, z = i + 1 := ⟨_, rfl⟩
      have x0 : IntKind.i64.wrap ((i : Int) + 1) = (i' : Int) := by have := H2.out; rw [IntKind.wrap_i64]; omega
      have HTr := Lib.hid (HT.out.below HW.out hb)
      have hX := (HTr.out.2 i hlt).1
      have hY := (HTr.out.2 i hlt).2
      have hyr : wr.cell? ⟨g, 0, none⟩ = some (.int .i64 y) := (HW.out.cell (p := ⟨g, 0, none⟩) hg).trans HY.out
      have hgr : g < wr.heap.size := Nat.lt_of_lt_of_le hg HW.out.size
      have HMS : Hid (n - (intOf (Value.int .i64 (i' : Int))).toNat < n - (intOf (Value.int .i64 (i : Int))).toNat) := by show _ < _; simp [intOf]; omega
      rcases first_at HK.out hlt Hi.out.2 with ⟨hp, hik⟩ | ⟨hp, hik⟩
      · have KK := Lib.hid (mpred (X i) (Y i) y g true hp.symm wr hyr hgr)
        have HR : Hid ((i : Int) = v) := by show (i : Int) = v; rw [HV.out, hik, if_pos (by omega)]
        clear hi' hp hik hyr hgr
        go_wp2_with (first | (go_at_call 39; (with_reducible refine (KK.out).mono ?_); rintro e w1 ⟨rfl, hb1⟩; obtain ⟨hc1, hf1⟩ := bcell hb1; have hz1 := hb1.size; (try simp at hz1); (try simp only [heap_drew, World.heap_drewN] at hz1); (try simp only [heap_drew, World.heap_drewN] at hc1); (try simp only [heap_drew, World.heap_drewN] at hf1); (try have hs1 := Nat.lt_of_succ_le hz1); (try have hs2 := Nat.lt_of_succ_lt hs1); (try have y0 : w.heap.size < w1.heap.size := by omega); (try have y1 : w.heap.size + 1 < w1.heap.size := by omega); (try have y2 : w.heap.size + 2 < w1.heap.size := by omega)))
        go_ret
        refine ⟨ret_int HR.out, ?_⟩
        have := HW.out
        (repeat' (first | assumption | exact Below.refl _ _ | exact Below.size (by assumption) | (refine Below.setCell ?_ ?_ _) | (refine Below.alloc ?_ ?_ _) | (refine Below.drew ?_) | (refine below_drewN ?_ _) | (refine Below.trans ?_ (Below.mono ‹Below _ _ _› ?_)) | omega | (simp; done) | (simp; omega) | (simp at *; omega)))
      · have KK := Lib.hid (mpred (X i) (Y i) y g false hp.symm wr hyr hgr)
        have HI' : Hid (i' ≤ n ∧ i' ≤ k) := by show _ ∧ _; omega
        clear hi' hp hik hyr hgr
        go_wp2_with (first | (go_at_call 39; (with_reducible refine (KK.out).mono ?_); rintro e w1 ⟨rfl, hb1⟩; obtain ⟨hc1, hf1⟩ := bcell hb1; have hz1 := hb1.size; (try simp at hz1); (try simp only [heap_drew, World.heap_drewN] at hz1); (try simp only [heap_drew, World.heap_drewN] at hc1); (try simp only [heap_drew, World.heap_drewN] at hf1); (try have hs1 := Nat.lt_of_succ_le hz1); (try have hs2 := Nat.lt_of_succ_lt hs1); (try have y0 : w.heap.size < w1.heap.size := by omega); (try have y1 : w.heap.size + 1 < w1.heap.size := by omega); (try have y2 : w.heap.size + 2 < w1.heap.size := by omega)))
        go_roundw
        case rel => exact ⟨i', HI', rfl, HW.out.trans (hb1.mono HW.out.size)⟩
        case measure => exact HMS.out
    · have e : i = n := by have := Hi.out; omega
      have HR : Hid ((-1 : Int) = v) := by show (-1 : Int) = v; rw [HV.out, if_neg (by have := Hi.out; omega)]
      have T0' : decide (i < n) = false := decide_eq_false hlt
      clear e hlt
      go_wp2_with fail
      go_ret
      exact ⟨ret_int HR.out, HW.out⟩
end Go.Proofs.YtpeelnjkppdkbaaGreat

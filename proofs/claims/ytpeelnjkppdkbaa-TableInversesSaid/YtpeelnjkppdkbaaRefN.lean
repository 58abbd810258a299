/- Least and Most of a table, by the reference. -/
import Derived.Test.YtpeelnjkppdkbaaRefM
import Derived.Test.YtpeelnjkppdkbaaRefD
import Derived.Test.YtpeelnjkppdkbaaLeast
import Derived.RegionTactic
import Derived.Deep.RegionWith
import Derived.StillTailTactics
namespace Go.Proofs.Ytpeelnjkppdkbaa
open Go.RowKit
set_option linter.unusedVariables false
set_option linter.unusedSimpArgs false

theorem rleast_first (b off n c : Nat) (X Y : Nat → Int) (y : Int) (w : World) (h1 : 1 ≤ n) (ht : TabAt w b off n X Y) (hy : y ≤ Y 0) :
    Calls Try.prog 24 #[.slice (some ⟨b, off, none⟩) n c, .int .i64 y] w fun e w' => e = .returned (.tuple #[.int .i64 (X 0), .bool true]) ∧ Below w.heap.size w w' := by
  have hx0 := (ht.2 0 (by omega)).1
  have hy0 := (ht.2 0 (by omega)).2
  simp only [Nat.zero_mul, Nat.add_zero] at hx0 hy0
  have hb := ht.1
  have T := decide_eq_true hy
  have T0 : (0 : Int) < (n : Int) := by omega
  clear ht hy
  go_enter Try.func24, Try.ntmps24
  go_wp2_with fail
  go_ret2
  refine ⟨rfl, ?_⟩
  (repeat' (first | assumption | exact Below.refl _ _ | exact Below.size (by assumption) | (refine Below.setCell ?_ ?_ _) | (refine Below.alloc ?_ ?_ _) | (refine Below.drew ?_) | (refine below_drewN ?_ _) | (refine Below.trans ?_ (Below.mono ‹Below _ _ _› ?_)) | omega | (simp; done) | (simp; omega) | (simp at *; omega)))

set_option maxHeartbeats 2000000 in
set_option maxRecDepth 100000 in
theorem rleast_none (b off n c : Nat) (X Y : Nat → Int) (y : Int) (w : World) (h1 : 1 ≤ n) (h2 : n ≤ 100) (ht : TabAt w b off n X Y) (hs : FirstAt (fun j => decide (y ≤ Y j)) n n) :
    Calls Try.prog 24 #[.slice (some ⟨b, off, none⟩) n c, .int .i64 y] w fun e w' => e = .returned (.tuple #[.int .i64 0, .bool false]) ∧ Below w.heap.size w w' := by
  have HT := Lib.hid ht
  have HS := Lib.hid hs
  have H2 := Lib.hid h2
  have hy0 := (ht.2 0 (by omega)).2
  simp only [Nat.zero_mul, Nat.add_zero] at hy0
  have hb := ht.1
  have T := hs.2.1 0 (by omega)
  have T0 : (0 : Int) < (n : Int) := by omega
  simp only [] at T
  clear ht hs h2
  go_enter Try.func24, Try.ntmps24
  go_wp2_with fail
  go_loop [6] (fun u => ∃ i : Nat, Hid (i ≤ n) ∧ u = .int .i64 i) (fun u => n - (intOf u).toNat)
  case atStart => exact ⟨1, h1, rfl⟩
  case round =>
    obtain ⟨i, Hi, rfl⟩ := hrel
    by_cases hlt : i < n
    · have T0 : decide ((i : Int) < (n : Int)) = true := by simp <;> omega
      have T0' : decide (i < n) = true := decide_eq_true hlt
      obtain ⟨i', hi'⟩ : ∃ z, z = i + 1 := ⟨_, rfl⟩
      have x0 : IntKind.i64.wrap ((i : Int) + 1) = (i' : Int) := by have := H2.out; rw [IntKind.wrap_i64]; omega
      have hY := (HT.out.2 i hlt).2
      have T1 := HS.out.2.1 i hlt
      simp only [] at T1
      have HI' : Hid (i' ≤ n) := by show i' ≤ n; omega
      have HMS : Hid (n - (intOf (Value.int .i64 (i' : Int))).toNat < n - (intOf (Value.int .i64 (i : Int))).toNat) := by show _ < _; simp [intOf]; omega
      clear hi'
      go_wp2_with fail
      go_round
      case rel => exact ⟨i', HI', rfl⟩
      case measure => exact HMS.out
    · have e : i = n := by have := Hi.out; omega
      have T0' : decide (i < n) = false := decide_eq_false hlt
      clear e hlt
      go_wp2_with fail
      go_ret2
      refine ⟨rfl, ?_⟩
      (repeat' (first | assumption | exact Below.refl _ _ | exact Below.size (by assumption) | (refine Below.setCell ?_ ?_ _) | (refine Below.alloc ?_ ?_ _) | (refine Below.drew ?_) | (refine below_drewN ?_ _) | (refine Below.trans ?_ (Below.mono ‹Below _ _ _› ?_)) | omega | (simp; done) | (simp; omega) | (simp at *; omega)))

set_option maxHeartbeats 2000000 in
set_option maxRecDepth 100000 in
theorem rleast_mid (b off n c p T D U : Nat) (X Y : Nat → Int) (y : Int) (w : World) (hv : TabOK n X Y) (ht : TabAt w b off n X Y) (hp : p + 1 < n) (hs : FirstAt (fun j => decide (y ≤ Y j)) n (p + 1))
    (eT : y - Y p = (T : Int)) (eD : X (p + 1) - X p = (D : Int)) (eU : Y (p + 1) - Y p = (U : Int)) (bT : T ≤ U) (hU : 0 < U) (v : Int) (hvv : v = X p + (((T * D + U - 1) / U : Nat) : Int)) :
    Calls Try.prog 24 #[.slice (some ⟨b, off, none⟩) n c, .int .i64 y] w fun e w' => e = .returned (.tuple #[.int .i64 v, .bool true]) ∧ Below w.heap.size w w' := by
  have bp := in_of hv (by omega : p < n)
  have bp1 := in_of hv hp
  have h2 := hv.2.1
  obtain ⟨k, hk⟩ : ∃ k, k = p + 1 := ⟨_, rfl⟩
  rw [← hk] at hs hp eD eU bp1
  obtain ⟨q1, q2, q3⟩ := inv_bounds (T := T) (D := D) (U := U) bT (by omega) (by omega) hU
  obtain ⟨hi, hhi⟩ : ∃ z, z = (T * D + U - 1) / U := ⟨_, rfl⟩
  rw [← hhi] at q3 hvv
  have SC := Lib.hid fun w => rceilof T D U hi (by omega) (by omega) (by omega) hU hhi (by omega) w
  have HT := Lib.hid ht
  have HS := Lib.hid hs
  have H2 := Lib.hid h2
  have hb := ht.1
  have hpn : p < n := by omega
  have hx1 := (HT.out.2 p hpn).1
  have hy1 := (HT.out.2 p hpn).2
  have hx2 := (HT.out.2 k hp).1
  have hy2 := (HT.out.2 k hp).2
  have e1 : IntKind.i64.wrap ((k : Int) - 1) = (p : Int) := by rw [IntKind.wrap_i64]; omega
  have e2 : IntKind.i64.wrap (y - Y p) = (T : Int) := by rw [eT]; exact wrap_id (by omega) (by omega)
  have e3 : IntKind.i64.wrap (X k - X p) = (D : Int) := by rw [eD]; exact wrap_id (by omega) (by omega)
  have e4 : IntKind.i64.wrap (Y k - Y p) = (U : Int) := by rw [eU]; exact wrap_id (by omega) (by omega)
  have e5 : IntKind.i64.wrap (X p + (hi : Int)) = v := by rw [hvv]; exact wrap_id (by omega) (by omega)
  have k0 : (0 : Int) ≤ (p : Int) := by omega
  have k1 : (p : Int) < (n : Int) := by omega
  have k2 : (0 : Int) ≤ (k : Int) := by omega
  have k3 : (k : Int) < (n : Int) := by omega
  have hy0 := (ht.2 0 (by omega)).2
  simp only [Nat.zero_mul, Nat.add_zero] at hy0
  have TF := hs.2.1 0 (by omega)
  have TN : (0 : Int) < (n : Int) := by omega
  have hk1 : 1 ≤ k := by omega
  simp only [] at TF
  clear hs hv ht bp bp1 h2 q1 q2 q3 hhi hvv eT eD eU bT hU hk
  go_enter Try.func24, Try.ntmps24
  go_wp2_with fail
  go_loop [6] (fun u => ∃ i : Nat, Hid (i ≤ k) ∧ u = .int .i64 i) (fun u => n - (intOf u).toNat)
  case atStart => exact ⟨1, hk1, rfl⟩
  case round =>
    obtain ⟨i, Hi, rfl⟩ := hrel
    have hlt : i < n := by have := Hi.out; omega
    rcases first_at HS.out hlt Hi.out with ⟨hpp, hik⟩ | ⟨hpp, hik⟩
    · subst hik
      have T0 : decide ((i : Int) < (n : Int)) = true := by simp <;> omega
      have T0' : decide (i < n) = true := decide_eq_true hlt
      go_upto_region 7 with fail
      go_still_tail 32, (by kernel_rfl)
      change wpList _ _ _ _ _ w.drew
      go_wp2_with (first | (go_at_call 46; (with_reducible refine (SC.out _).mono ?_); rintro e w1 ⟨rfl, hb1⟩; obtain ⟨hc1, hf1⟩ := bcell hb1; have hz1 := hb1.size; (try simp at hz1); (try simp only [heap_drew, World.heap_drewN] at hz1); (try simp only [heap_drew, World.heap_drewN] at hc1); (try simp only [heap_drew, World.heap_drewN] at hf1); (try have hs1 := Nat.lt_of_succ_le hz1); (try have hs2 := Nat.lt_of_succ_lt hs1); (try have y0 : w.heap.size < w1.heap.size := by omega); (try have y1 : w.heap.size + 1 < w1.heap.size := by omega); (try have y2 : w.heap.size + 2 < w1.heap.size := by omega); (try have yb : b < w1.heap.size := by omega)))
      all_goals (go_ret2; refine ⟨rfl, ?_⟩; (repeat' (first | assumption | exact Below.refl _ _ | exact Below.size (by assumption) | (refine Below.setCell ?_ ?_ _) | (refine Below.alloc ?_ ?_ _) | (refine Below.drew ?_) | (refine below_drewN ?_ _) | (refine Below.trans ?_ (Below.mono ‹Below _ _ _› ?_)) | omega | (simp; done) | (simp; omega) | (simp at *; omega))))
    · have T0 : decide ((i : Int) < (n : Int)) = true := by simp <;> omega
      have T0' : decide (i < n) = true := decide_eq_true hlt
      obtain ⟨i', hi'⟩ : ∃ z, z = i + 1 := ⟨_, rfl⟩
      have x0 : IntKind.i64.wrap ((i : Int) + 1) = (i' : Int) := by have := H2.out; rw [IntKind.wrap_i64]; omega
      have hY := (HT.out.2 i hlt).2
      have HI' : Hid (i' ≤ k) := by show i' ≤ k; omega
      have HMS : Hid (n - (intOf (Value.int .i64 (i' : Int))).toNat < n - (intOf (Value.int .i64 (i : Int))).toNat) := by show _ < _; simp [intOf]; omega
      clear hi' hik
      go_wp2_with fail
      go_round
      case rel => exact ⟨i', HI', rfl⟩
      case measure => exact HMS.out
theorem rmost_none (b off n c : Nat) (X Y : Nat → Int) (y : Int) (w : World) (h1 : 1 ≤ n) (ht : TabAt w b off n X Y) (hy : y < Y 0) :
    Calls Try.prog 25 #[.slice (some ⟨b, off, none⟩) n c, .int .i64 y] w fun e w' => e = .returned (.tuple #[.int .i64 0, .bool false]) ∧ Below w.heap.size w w' := by
  have hx0 := (ht.2 0 (by omega)).1
  have hy0 := (ht.2 0 (by omega)).2
  simp only [Nat.zero_mul, Nat.add_zero] at hx0 hy0
  have hb := ht.1
  have T := decide_eq_true hy
  have T0 : (0 : Int) < (n : Int) := by omega
  clear ht hy
  go_enter Try.func25, Try.ntmps25
  go_wp2_with fail
  go_ret2
  refine ⟨rfl, ?_⟩
  (repeat' (first | assumption | exact Below.refl _ _ | exact Below.size (by assumption) | (refine Below.setCell ?_ ?_ _) | (refine Below.alloc ?_ ?_ _) | (refine Below.drew ?_) | (refine below_drewN ?_ _) | (refine Below.trans ?_ (Below.mono ‹Below _ _ _› ?_)) | omega | (simp; done) | (simp; omega) | (simp at *; omega)))

set_option maxHeartbeats 2000000 in
set_option maxRecDepth 100000 in
theorem rmost_last (b off n m c : Nat) (X Y : Nat → Int) (y : Int) (w : World) (hn : n = m + 1) (h2 : n ≤ 100) (ht : TabAt w b off n X Y) (h0 : Y 0 ≤ y) (hK : BInv Y y n m) :
    Calls Try.prog 25 #[.slice (some ⟨b, off, none⟩) n c, .int .i64 y] w fun e w' => e = .returned (.tuple #[.int .i64 (X m), .bool true]) ∧ Below w.heap.size w w' := by
  have HT := Lib.hid ht
  have HK := Lib.hid hK
  have H2 := Lib.hid h2
  have H0 := Lib.hid h0
  have H1 : Hid (1 ≤ n) := by show 1 ≤ n; omega
  have hy0 := (ht.2 0 (by omega)).2
  simp only [Nat.zero_mul, Nat.add_zero] at hy0
  have hb := ht.1
  have T : decide (y < Y 0) = false := decide_eq_false (by omega)
  have T0 : (0 : Int) < (n : Int) := by omega
  have hx1 := (HT.out.2 m (by omega)).1
  have e1 : IntKind.i64.wrap ((n : Int) - 1) = (m : Int) := by rw [IntKind.wrap_i64]; omega
  have k0 : (0 : Int) ≤ (m : Int) := by omega
  have k1 : (m : Int) < (n : Int) := by omega
  clear ht h2 hn h0 hK
  go_enter Try.func25, Try.ntmps25
  go_wp2_with fail
  go_loop [6, 7] (fun u v => ∃ (i : Nat) (L : Int), Hid ((i = 0 ∧ L = 0) ∨ BInv Y y i L) ∧ Hid (i ≤ n) ∧ u = .int .i64 L ∧ v = .int .i64 i) (fun _ v => n - (intOf v).toNat)
  case atStart => exact ⟨0, 0, .inl ⟨rfl, rfl⟩, Nat.zero_le _, rfl, rfl⟩
  case round =>
    obtain ⟨i, L, HL, Hi, rfl, rfl⟩ := hrel
    by_cases hlt : i < n
    · have T0 : decide ((i : Int) < (n : Int)) = true := by simp <;> omega
      have T0' : decide (i < n) = true := decide_eq_true hlt
      obtain ⟨i', hi'⟩ : ∃ z, z = i + 1 := ⟨_, rfl⟩
      have x0 : IntKind.i64.wrap ((i : Int) + 1) = (i' : Int) := by have := H2.out; rw [IntKind.wrap_i64]; omega
      have hY := (HT.out.2 i hlt).2
      have HI' : Hid (i' ≤ n) := by show i' ≤ n; omega
      have HMS : Hid (n - (intOf (Value.int .i64 (i' : Int))).toNat < n - (intOf (Value.int .i64 (i : Int))).toNat) := by show _ < _; simp [intOf]; omega
      by_cases hx : Y i ≤ y
      · have TY := decide_eq_true hx
        have HL' : Hid ((i' = 0 ∧ (i : Int) = 0) ∨ BInv Y y i' i) := by rw [hi']; exact .inr (binv_yes hx)
        clear hi' hx
        go_wp2_with fail
        go_round
        case rel => exact ⟨i', _, HL', HI', rfl, rfl⟩
        case measure => exact HMS.out
      · have TY := decide_eq_false hx
        have HL' : Hid ((i' = 0 ∧ L = 0) ∨ BInv Y y i' L) := by
          rw [hi']
          rcases HL.out with ⟨e, _⟩ | h
          · subst e; exact absurd H0.out hx
          · exact .inr (binv_no h (by omega))
        clear hi' hx
        go_wp2_with fail
        go_round
        case rel => exact ⟨i', _, HL', HI', rfl, rfl⟩
        case measure => exact HMS.out
    · obtain rfl : i = n := by have := Hi.out; omega
      obtain rfl : L = (m : Int) := by
        rcases HL.out with ⟨e, _⟩ | h
        · have := H1.out; omega
        · exact binv_uniq h HK.out
      have T0' : decide (i < i) = false := decide_eq_false (Nat.lt_irrefl i)
      clear hlt
      go_wp2_with fail
      go_ret2
      refine ⟨rfl, ?_⟩
      (repeat' (first | assumption | exact Below.refl _ _ | exact Below.size (by assumption) | (refine Below.setCell ?_ ?_ _) | (refine Below.alloc ?_ ?_ _) | (refine Below.drew ?_) | (refine below_drewN ?_ _) | (refine Below.trans ?_ (Below.mono ‹Below _ _ _› ?_)) | omega | (simp; done) | (simp; omega) | (simp at *; omega)))

set_option maxHeartbeats 2000000 in
set_option maxRecDepth 100000 in
theorem rmost_mid (b off n c p T D U : Nat) (X Y : Nat → Int) (y : Int) (w : World) (hv : TabOK n X Y) (ht : TabAt w b off n X Y) (hp : p + 1 < n) (h0 : Y 0 ≤ y) (hK : BInv Y y n p)
    (eT : y - Y p = (T : Int)) (eD : X (p + 1) - X p = (D : Int)) (eU : Y (p + 1) - Y p = (U : Int)) (bT : T ≤ U) (hU : 0 < U) (v : Int) (hvv : v = X p + ((T * D / U : Nat) : Int)) :
    Calls Try.prog 25 #[.slice (some ⟨b, off, none⟩) n c, .int .i64 y] w fun e w' => e = .returned (.tuple #[.int .i64 v, .bool true]) ∧ Below w.heap.size w w' := by
  have bp := in_of hv (by omega : p < n)
  have bp1 := in_of hv hp
  have h2 := hv.2.1
  obtain ⟨k, hk⟩ : ∃ k, k = p + 1 := ⟨_, rfl⟩
  obtain ⟨m, hm⟩ : ∃ m, n = m + 1 := ⟨n - 1, by omega⟩
  rw [← hk] at hp eD eU bp1
  obtain ⟨q1, q2, q3⟩ := inv_bounds (T := T) (D := D) (U := U) bT (by omega) (by omega) hU
  obtain ⟨hi, hhi⟩ : ∃ z, T * D / U = z := ⟨_, rfl⟩
  rw [hhi] at q2 hvv
  have SC := Lib.hid fun w => rfloorof T D U hi (by omega) (by omega) (by omega) hU hhi (by omega) w
  have HT := Lib.hid ht
  have HK := Lib.hid hK
  have H2 := Lib.hid h2
  have H0 := Lib.hid h0
  have H1 : Hid (1 ≤ n) := by show 1 ≤ n; omega
  have hb := ht.1
  have hpn : p < n := by omega
  have hx1 := (HT.out.2 p hpn).1
  have hy1 := (HT.out.2 p hpn).2
  have hx2 := (HT.out.2 k hp).1
  have hy2 := (HT.out.2 k hp).2
  have e1 : IntKind.i64.wrap ((p : Int) + 1) = (k : Int) := by rw [IntKind.wrap_i64]; omega
  have e2 : IntKind.i64.wrap (y - Y p) = (T : Int) := by rw [eT]; exact wrap_id (by omega) (by omega)
  have e3 : IntKind.i64.wrap (X k - X p) = (D : Int) := by rw [eD]; exact wrap_id (by omega) (by omega)
  have e4 : IntKind.i64.wrap (Y k - Y p) = (U : Int) := by rw [eU]; exact wrap_id (by omega) (by omega)
  have e5 : IntKind.i64.wrap (X p + (hi : Int)) = v := by rw [hvv]; exact wrap_id (by omega) (by omega)
  have e6 : IntKind.i64.wrap ((n : Int) - 1) = (m : Int) := by rw [IntKind.wrap_i64]; omega
  have k0 : (0 : Int) ≤ (p : Int) := by omega
  have k1 : (p : Int) < (n : Int) := by omega
  have k2 : (0 : Int) ≤ (k : Int) := by omega
  have k3 : (k : Int) < (n : Int) := by omega
  have t1 : ((p : Int) == (m : Int)) = false := by simp <;> omega
  have t2 : ¬ p = m := by omega
  have hy0 := (ht.2 0 (by omega)).2
  simp only [Nat.zero_mul, Nat.add_zero] at hy0
  have TF : decide (y < Y 0) = false := decide_eq_false (by omega)
  have TN : (0 : Int) < (n : Int) := by omega
  clear hv ht bp bp1 h2 q1 q2 q3 hhi hvv eT eD eU bT hU hk hm h0 hK
  go_enter Try.func25, Try.ntmps25
  go_wp2_with fail
  go_loop [6, 7] (fun u v => ∃ (i : Nat) (L : Int), Hid ((i = 0 ∧ L = 0) ∨ BInv Y y i L) ∧ Hid (i ≤ n) ∧ u = .int .i64 L ∧ v = .int .i64 i) (fun _ v => n - (intOf v).toNat)
  case atStart => exact ⟨0, 0, .inl ⟨rfl, rfl⟩, Nat.zero_le _, rfl, rfl⟩
  case round =>
    obtain ⟨i, L, HL, Hi, rfl, rfl⟩ := hrel
    by_cases hlt : i < n
    · have T0 : decide ((i : Int) < (n : Int)) = true := by simp <;> omega
      have T0' : decide (i < n) = true := decide_eq_true hlt
      obtain ⟨i', hi'⟩ : ∃ z, z = i + 1 := ⟨_, rfl⟩
      have x0 : IntKind.i64.wrap ((i : Int) + 1) = (i' : Int) := by have := H2.out; rw [IntKind.wrap_i64]; omega
      have hY := (HT.out.2 i hlt).2
      have HI' : Hid (i' ≤ n) := by show i' ≤ n; omega
      have HMS : Hid (n - (intOf (Value.int .i64 (i' : Int))).toNat < n - (intOf (Value.int .i64 (i : Int))).toNat) := by show _ < _; simp [intOf]; omega
      by_cases hx : Y i ≤ y
      · have TY := decide_eq_true hx
        have HL' : Hid ((i' = 0 ∧ (i : Int) = 0) ∨ BInv Y y i' i) := by rw [hi']; exact .inr (binv_yes hx)
        clear hi' hx
        go_wp2_with fail
        go_round
        case rel => exact ⟨i', _, HL', HI', rfl, rfl⟩
        case measure => exact HMS.out
      · have TY := decide_eq_false hx
        have HL' : Hid ((i' = 0 ∧ L = 0) ∨ BInv Y y i' L) := by
          rw [hi']
          rcases HL.out with ⟨e, _⟩ | h
          · subst e; exact absurd H0.out hx
          · exact .inr (binv_no h (by omega))
        clear hi' hx
        go_wp2_with fail
        go_round
        case rel => exact ⟨i', _, HL', HI', rfl, rfl⟩
        case measure => exact HMS.out
    · obtain rfl : i = n := by have := Hi.out; omega
      obtain rfl : L = (p : Int) := by
        rcases HL.out with ⟨e, _⟩ | h
        · have := H1.out; omega
        · exact binv_uniq h HK.out
      have T0' : decide (i < i) = false := decide_eq_false (Nat.lt_irrefl i)
      clear hlt
      go_upto_region 11 with fail
      go_still_tail 31, (by kernel_rfl)
      change wpList _ _ _ _ _ w.drew
      go_wp2_with (first | (go_at_call 47; (with_reducible refine (SC.out _).mono ?_); rintro e w1 ⟨rfl, hb1⟩; obtain ⟨hc1, hf1⟩ := bcell hb1; have hz1 := hb1.size; (try simp at hz1); (try simp only [heap_drew, World.heap_drewN] at hz1); (try simp only [heap_drew, World.heap_drewN] at hc1); (try simp only [heap_drew, World.heap_drewN] at hf1); (try have hs1 := Nat.lt_of_succ_le hz1); (try have hs2 := Nat.lt_of_succ_lt hs1); (try have y0 : w.heap.size < w1.heap.size := by omega); (try have y1 : w.heap.size + 1 < w1.heap.size := by omega); (try have y2 : w.heap.size + 2 < w1.heap.size := by omega); (try have yb : b < w1.heap.size := by omega)))
      all_goals (go_ret2; refine ⟨rfl, ?_⟩; (repeat' (first | assumption | exact Below.refl _ _ | exact Below.size (by assumption) | (refine Below.setCell ?_ ?_ _) | (refine Below.alloc ?_ ?_ _) | (refine Below.drew ?_) | (refine below_drewN ?_ _) | (refine Below.trans ?_ (Below.mono ‹Below _ _ _› ?_)) | omega | (simp; done) | (simp; omega) | (simp at *; omega))))
end Go.Proofs.Ytpeelnjkppdkbaa

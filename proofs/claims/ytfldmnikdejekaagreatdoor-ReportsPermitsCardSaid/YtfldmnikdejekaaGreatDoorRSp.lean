/- The reference's calendar: the year of an instant. -/
import Derived.Test.YtfldmnikdejekaaGreatDoorSpl
namespace Go.Proofs.YtfldmnikdejekaaGreatDoor
open Go.RowKit Go.Sort
set_option linter.unusedVariables false
set_option linter.unusedSimpArgs false

theorem rinst (t : Int) (w : World) : Calls Tryz.prog 224 #[.int .i64 t] w fun e w' => e = .returned (.bool (decide (InstP t))) ∧ w = w' := by
  obtain ⟨b, hb⟩ : ∃ b, b = decide (InstP t) := ⟨_, rfl⟩
  rw [← hb]
  by_cases h1 : -68719476736 ≤ t
  · by_cases h2 : t ≤ 68719476736
    · have t1 : decide ((-68719476736 : Int) ≤ t) = true := decide_eq_true h1
      have t2 : decide (t ≤ (68719476736 : Int)) = true := decide_eq_true h2
      obtain rfl : b = true := by rw [hb]; exact decide_eq_true ⟨h1, h2⟩
      clear hb h1 h2
      go_enter Tryz.func224, Tryz.ntmps224
      go_wp2_with fail
      go_ret
      exact ⟨rfl, rfl⟩
    · have t1 : decide ((-68719476736 : Int) ≤ t) = true := decide_eq_true h1
      have t2 : decide (t ≤ (68719476736 : Int)) = false := decide_eq_false h2
      obtain rfl : b = false := by rw [hb]; exact decide_eq_false (fun h => h2 h.2)
      clear hb h1 h2
      go_enter Tryz.func224, Tryz.ntmps224
      go_wp2_with fail
      go_ret
      exact ⟨rfl, rfl⟩
  · have t1 : decide ((-68719476736 : Int) ≤ t) = false := decide_eq_false h1
    obtain rfl : b = false := by rw [hb]; exact decide_eq_false (fun h => h1 h.1)
    clear hb h1
    go_enter Tryz.func224, Tryz.ntmps224
    go_wp2_with fail
    go_ret
    exact ⟨rfl, rfl⟩
theorem rfloor5 (t : Int) (h : InstP t) (w : World) : Calls Tryz.prog 264 #[.int .i64 t, .int .i64 86400] w fun e w' => e = .returned (.int .i64 (t / 86400)) ∧ w = w' := by
  obtain ⟨q, r, n, e1, e1w, e2, hn, hc, e4, e5⟩ := floor_facts t h
  rw [← hn]
  obtain ⟨p, hp⟩ : ∃ p, p = q * 86400 := ⟨_, rfl⟩
  have e4' : IntKind.i64.wrap (q * 86400) = p := e4.trans hp.symm
  rw [← hp] at e5
  clear h hn e2 hp e4
  rcases hc with ⟨t1, e6⟩ | ⟨t1, rfl⟩
  · go_enter Tryz.func264, Tryz.ntmps264
    go_wp2_with fail
    go_ret
    exact ⟨rfl, rfl⟩
  · go_enter Tryz.func264, Tryz.ntmps264
    go_wp2_with fail
    go_ret
    exact ⟨rfl, rfl⟩
theorem rbefore5 (y : Nat) (h1 : 1 ≤ y) (h2 : y ≤ 10000) (w : World) : Calls Tryz.prog 302 #[.int .i64 (y : Int)] w fun e w' => e = .returned (.int .i64 (yb y + 730119)) ∧ w = w' := by
  obtain ⟨m, hm⟩ : ∃ m : Nat, m = y - 1 := ⟨_, rfl⟩
  obtain ⟨a, ha⟩ : ∃ a : Nat, a = 365 * m := ⟨_, rfl⟩
  obtain ⟨b, hb⟩ : ∃ b : Nat, b = m / 4 := ⟨_, rfl⟩
  obtain ⟨c, hc⟩ : ∃ c : Nat, c = a + b := ⟨_, rfl⟩
  obtain ⟨d, hd⟩ : ∃ d : Nat, d = m / 100 := ⟨_, rfl⟩
  obtain ⟨f, hf⟩ : ∃ f : Nat, f = c - d := ⟨_, rfl⟩
  obtain ⟨g, hg⟩ : ∃ g : Nat, g = m / 400 := ⟨_, rfl⟩
  obtain ⟨h, hh⟩ : ∃ h : Nat, h = f + g := ⟨_, rfl⟩
  obtain ⟨z, hz⟩ : ∃ z : Int, z = yb y + 730119 := ⟨_, rfl⟩
  have e1 : IntKind.i64.wrap ((y : Int) - 1) = (m : Int) := by rw [IntKind.wrap_i64]; omega
  have e2 : IntKind.i64.wrap (365 * (m : Int)) = (a : Int) := by rw [IntKind.wrap_i64]; omega
  have e3 : Int.tdiv (m : Int) 4 = (b : Int) := by rw [hb]; exact Int.ofNat_tdiv m 4
  have e3w : IntKind.i64.wrap (b : Int) = (b : Int) := by rw [IntKind.wrap_i64]; omega
  have e4 : IntKind.i64.wrap ((a : Int) + (b : Int)) = (c : Int) := by rw [IntKind.wrap_i64]; omega
  have e5 : Int.tdiv (m : Int) 100 = (d : Int) := by rw [hd]; exact Int.ofNat_tdiv m 100
  have e5w : IntKind.i64.wrap (d : Int) = (d : Int) := by rw [IntKind.wrap_i64]; omega
  have e6 : IntKind.i64.wrap ((c : Int) - (d : Int)) = (f : Int) := by rw [IntKind.wrap_i64]; omega
  have e7 : Int.tdiv (m : Int) 400 = (g : Int) := by rw [hg]; exact Int.ofNat_tdiv m 400
  have e7w : IntKind.i64.wrap (g : Int) = (g : Int) := by rw [IntKind.wrap_i64]; omega
  have e8 : IntKind.i64.wrap ((f : Int) + (g : Int)) = z := by
    have hm2 : (y : Int) - 1 = (m : Int) := by omega
    have hdc : d ≤ c := by omega
    rw [IntKind.wrap_i64, hz]; unfold yb; rw [hm2]; omega
  rw [← hz]
  clear h1 h2 hm ha hb hc hd hf hg hh hz
  go_enter Tryz.func302, Tryz.ntmps302
  go_wp2_with fail
  go_ret
  exact ⟨rfl, rfl⟩
theorem rleap5 (y : Nat) (h1 : 1 ≤ y) (h2 : y ≤ 9999) (w : World) : Calls Tryz.prog 323 #[.int .i64 (y : Int)] w fun e w' => e = .returned (.bool (leapB y)) ∧ w = w' := by
  obtain ⟨a, ha⟩ : ∃ a : Nat, a = y % 4 := ⟨_, rfl⟩
  obtain ⟨b, hb⟩ : ∃ b : Nat, b = y % 100 := ⟨_, rfl⟩
  obtain ⟨c, hc⟩ : ∃ c : Nat, c = y % 400 := ⟨_, rfl⟩
  have e1 : Int.tmod (y : Int) 4 = (a : Int) := by rw [ha]; exact Int.ofNat_tmod y 4
  have e2 : Int.tmod (y : Int) 100 = (b : Int) := by rw [hb]; exact Int.ofNat_tmod y 100
  have e3 : Int.tmod (y : Int) 400 = (c : Int) := by rw [hc]; exact Int.ofNat_tmod y 400
  have hl : leapP (y : Int) ↔ (a = 0 ∧ (¬ b = 0 ∨ c = 0)) := by unfold leapP; omega
  have HL : Hid (leapB y = (decide (a = 0) && (!decide (b = 0) || decide (c = 0)))) := by
    show leapB y = _
    rw [Bool.eq_iff_iff]
    unfold leapB
    rw [decide_eq_true_iff, hl]
    simp
  clear h1 h2 ha hb hc hl
  go_enter Tryz.func323, Tryz.ntmps323
  go_wp2
  all_goals (go_ret; refine ⟨ret_bool ?_, rfl⟩; rw [HL.out, Bool.eq_iff_iff]; simp [*]; try omega)
set_option maxRecDepth 100000 in
set_option maxHeartbeats 4000000 in
theorem rdays (y m : Nat) (h1 : 1 ≤ y) (h2 : y ≤ 9999) (m1 : 1 ≤ m) (m2 : m ≤ 12) (w : World) : Calls Tryz.prog 303 #[.int .i64 (y : Int), .int .i64 (m : Int)] w fun e w' => e = .returned (.int .i64 (lens (leapB y) m)) ∧ Below w.heap.size w w' := by
  have S := Lib.hid fun w => rleap5 y h1 h2 w
  generalize leapB y = lp at S ⊢
  rcases twelve m1 m2 with rfl | rfl | rfl | rfl | rfl | rfl | rfl | rfl | rfl | rfl | rfl | rfl
  case' inr.inl => cases lp
  all_goals
    go_enter Tryz.func303, Tryz.ntmps303
    go_wp2_with (first | (go_at_call 323; (with_reducible refine (S.out _).mono ?_); rintro e w' ⟨rfl, rfl⟩))
    go_ret
    exact ⟨rfl, by (repeat' (first | assumption | exact Below.refl _ _ | exact Below.size (by assumption) | (refine Below.setCell ?_ ?_ _) | (refine Below.alloc ?_ ?_ _) | (refine Below.drew ?_) | (refine below_drewN ?_ _) | (refine Below.trans ?_ (Below.mono ‹Below _ _ _› ?_)) | omega | (simp; done) | (simp; omega) | (simp at *; omega)))⟩
/-- The days of the months ahead of a month. -/
def dsum (lp : Bool) : Nat → Int
  | 0 => 0
  | 1 => 0
  | m + 2 => dsum lp (m + 1) + lens lp (m + 1)
theorem dsum_step (lp : Bool) {m : Nat} (h : 1 ≤ m) : dsum lp (m + 1) = dsum lp m + lens lp m := by
  obtain ⟨k, rfl⟩ : ∃ k, m = k + 1 := ⟨m - 1, by omega⟩
  rfl
theorem dsum_bound (lp : Bool) : ∀ m, 1 ≤ m → m ≤ 12 → 0 ≤ dsum lp m ∧ dsum lp m ≤ 31 * (m : Int)
  | 0, h, _ => by omega
  | 1, _, _ => by unfold dsum; omega
  | m + 2, _, h => by
    have h1 := dsum_bound lp (m + 1) (by omega) (by omega)
    have h2 := lens_bound lp (show 1 ≤ m + 1 by omega) (by omega)
    show 0 ≤ dsum lp (m + 1) + lens lp (m + 1) ∧ dsum lp (m + 1) + lens lp (m + 1) ≤ _
    omega
set_option maxRecDepth 100000 in
set_option maxHeartbeats 4000000 in
theorem rnumber5 (y m : Nat) (d : Int) (h1 : 1 ≤ y) (h2 : y ≤ 9999) (m1 : 1 ≤ m) (m2 : m ≤ 12) (d1 : 1 ≤ d) (d2 : d ≤ 31) (w : World) : Calls Tryz.prog 301 #[.agg #[.int .i64 (y : Int), .int .i64 (m : Int), .int .i64 d]] w fun e w' => e = .returned (.int .i64 (yb y + d - 1 + dsum (leapB y) m)) ∧ Below w.heap.size w w' := by
  have b1 := yb_le (show (1 : Int) ≤ (y : Int) by omega)
  have b2 := yb_le (show (y : Int) ≤ 10000 by omega)
  rw [yb_1] at b1
  rw [yb_10000] at b2
  have S1 := Lib.hid fun w => rbefore5 y (by omega) (by omega) w
  have S2 : Hid (∀ w, Calls Tryz.prog 302 #[.int .i64 2000] w fun e w' => e = .returned (.int .i64 730119) ∧ w = w') := fun w => by
    have := rbefore5 2000 (by omega) (by omega) w
    rwa [show yb ((2000 : Nat) : Int) + 730119 = 730119 by decide] at this
  have s4 := fun (k : Nat) k1 k2 w => rdays y k h1 h2 k1 k2 w
  obtain ⟨lp, hlp⟩ : ∃ z, z = leapB (y : Int) := ⟨_, rfl⟩
  rw [← hlp] at s4 ⊢
  have S4 := Lib.hid s4
  obtain ⟨z, hz⟩ : ∃ z, z = yb (y : Int) := ⟨_, rfl⟩
  rw [← hz] at b1 b2 S1 ⊢
  obtain ⟨z2, hz2⟩ : ∃ a, a = z + 730119 := ⟨_, rfl⟩
  rw [← hz2] at S1
  obtain ⟨a, ha⟩ : ∃ a, a = z + d := ⟨_, rfl⟩
  obtain ⟨b, hb⟩ : ∃ b, b = a - 1 := ⟨_, rfl⟩
  have x1 : IntKind.i64.wrap (z2 - 730119) = z := by rw [IntKind.wrap_i64]; omega
  have x2 : IntKind.i64.wrap (z + d) = a := by rw [IntKind.wrap_i64]; omega
  have x3 : IntKind.i64.wrap (a - 1) = b := by rw [IntKind.wrap_i64]; omega
  rw [show z + d - 1 = b by omega]
  have HBB : Hid (-800000 ≤ b ∧ b ≤ 3000000) := by show _ ∧ _; omega
  have B0 : Hid (Blk (w.alloc (Obj.cells #[.int .i64 (y : Int), .int .i64 (m : Int), .int .i64 d] 262)) w.heap.size 262 #[.int .i64 (y : Int), .int .i64 (m : Int), .int .i64 d]) := Blk.new _ _ _
  have W0 : Hid (Below w.heap.size w (w.alloc (Obj.cells #[.int .i64 (y : Int), .int .i64 (m : Int), .int .i64 d] 262))) := (Below.refl _ _).alloc (Nat.le_refl _) _
  have HM12 : Hid (1 ≤ m ∧ m ≤ 12) := ⟨m1, m2⟩
  clear s4 h1 h2 b1 b2 hz ha hb hz2 d1 d2 m1 m2 hlp
  go_enter Tryz.func301, Tryz.ntmps301
  go_upto_region 1 with fail
  go_cut [3] from 5 to 13 (fun x wx => x = .int .i64 b ∧ Blk wx w.heap.size 262 #[.int .i64 (y : Int), .int .i64 (m : Int), .int .i64 d] ∧ Below w.heap.size w wx)
  case first =>
    go_quiet (first
      | (go_at_call 302; with_reducible exact quiet_left (S1.out _))
      | (go_at_call 302; with_reducible exact quiet_left (S2.out _)))
    go_wp2_with fail
    go_meet
    exact ⟨rfl, B0.out.drewN _, below_drewN W0.out _⟩
  case rest =>
    obtain ⟨rfl, hb0, hw0⟩ := hcut
    generalize wc = wz at hb0 hw0 ⊢
    have HB := Lib.hid hb0
    have HW := Lib.hid hw0
    clear hb0 hw0
    go_wp2_with fail
    go_loopw [3, 4] (fun u v wr => ∃ k : Nat, Hid (1 ≤ k ∧ k ≤ m) ∧ u = .int .i64 (b + dsum lp k) ∧ v = .int .i64 k ∧ Hid (Blk wr w.heap.size 262 #[.int .i64 (y : Int), .int .i64 (m : Int), .int .i64 d] ∧ Below w.heap.size w wr)) (fun _ v _ => m - (intOf v).toNat)
    case atStart => exact ⟨1, ⟨Nat.le_refl _, HM12.out.1⟩, by simp [dsum], rfl, HB.out, HW.out⟩
    case round =>
      obtain ⟨k, Hk, rfl, rfl, HR⟩ := hrel
      obtain ⟨z0, z1, z2⟩ := date_cells HR.out.1
      by_cases hlt : k < m
      · have T0 : decide ((k : Int) < (m : Int)) = true := by simp <;> omega
        have T0' : decide (k < m) = true := decide_eq_true hlt
        obtain ⟨k', hk'⟩ : ∃ z, z = k + 1 := ⟨_, rfl⟩
        have y0 : IntKind.i64.wrap ((k : Int) + 1) = (k' : Int) := by have := HM12.out; rw [IntKind.wrap_i64]; omega
        have HMS : Hid (m - (intOf (Value.int .i64 (k' : Int))).toNat < m - (intOf (Value.int .i64 (k : Int))).toNat) := by show _ < _; simp [intOf]; omega
        have hk12 : k ≤ 12 := by have := HM12.out; omega
        have S5 := Lib.hid fun w => S4.out k Hk.out.1 hk12 w
        have hd := dsum_bound lp k Hk.out.1 hk12
        have hl := lens_bound lp Hk.out.1 hk12
        have HDS : Hid (dsum lp k' = dsum lp k + lens lp k) := by show _ = _; rw [hk']; exact dsum_step lp Hk.out.1
        generalize lens lp k = ll at S5 hl HDS
        generalize dsum lp k = ds at hd HDS
        obtain ⟨s, hs⟩ : ∃ z, z = b + ds := ⟨_, rfl⟩
        obtain ⟨s2, hs2⟩ : ∃ z, z = s + ll := ⟨_, rfl⟩
        have y1 : IntKind.i64.wrap (s + ll) = s2 := by have := HBB.out; rw [IntKind.wrap_i64]; omega
        have HS2 : Hid (s2 = b + dsum lp k') := by show _ = _; rw [HDS.out]; omega
        rw [← hs]
        have HK' : Hid (1 ≤ k' ∧ k' ≤ m) := by show _ ∧ _; omega
        clear hlt hk' hk12 hd hl hs hs2
        go_wp2_with (first
          | (go_at_call 303
             with_reducible refine (S5.out _).mono ?_
             rintro e w1 ⟨rfl, hb1⟩
             have R1 : Hid (Blk w1 w.heap.size 262 #[.int .i64 (y : Int), .int .i64 (m : Int), .int .i64 d] ∧ Below w.heap.size w w1) := ⟨HR.out.1.call hb1, below_step HR.out.2 hb1⟩
             clear hb1))
        go_roundw
        case rel => exact ⟨k', HK', by rw [HS2.out], rfl, R1⟩
        case measure => exact HMS.out
      · have hin : k = m := by have := Hk.out; omega
        have T0 : decide ((k : Int) < (m : Int)) = false := by simp <;> omega
        have T0' : decide (k < m) = false := decide_eq_false hlt
        rw [hin]
        clear hlt hin
        go_wp2_with fail
        go_ret
        exact ⟨rfl, HR.out.2⟩
theorem rdated (n : Int) (w : World) : Calls Tryz.prog 265 #[.int .i64 n] w fun e w' => e = .returned (.bool (decide (-730119 ≤ n ∧ n ≤ 2921939))) ∧ Below w.heap.size w w' := by
  have S1 : Hid (∀ w, Calls Tryz.prog 301 #[.agg #[.int .i64 1, .int .i64 1, .int .i64 1]] w fun e w' => e = .returned (.int .i64 (-730119)) ∧ Below w.heap.size w w') := fun w => by
    have := rnumber5 1 1 1 (by omega) (by omega) (by omega) (by omega) (by omega) (by omega) w
    rwa [show yb ((1 : Nat) : Int) + 1 - 1 + dsum (leapB ((1 : Nat) : Int)) 1 = -730119 by decide] at this
  have S2 : Hid (∀ w, Calls Tryz.prog 301 #[.agg #[.int .i64 9999, .int .i64 12, .int .i64 31]] w fun e w' => e = .returned (.int .i64 2921939) ∧ Below w.heap.size w w') := fun w => by
    have := rnumber5 9999 12 31 (by omega) (by omega) (by omega) (by omega) (by omega) (by omega) w
    rwa [show yb ((9999 : Nat) : Int) + 31 - 1 + dsum (leapB ((9999 : Nat) : Int)) 12 = 2921939 by decide] at this
  obtain ⟨b, hb⟩ : ∃ b, b = decide (-730119 ≤ n ∧ n ≤ 2921939) := ⟨_, rfl⟩
  rw [← hb]
  by_cases h1 : -730119 ≤ n
  · have t1 : decide ((-730119 : Int) ≤ n) = true := decide_eq_true h1
    by_cases h2 : n ≤ 2921939
    · have t2 : decide (n ≤ (2921939 : Int)) = true := decide_eq_true h2
      obtain rfl : b = true := by rw [hb]; exact decide_eq_true ⟨h1, h2⟩
      clear hb h1 h2
      go_enter Tryz.func265, Tryz.ntmps265
      go_wp2_with (first
        | (go_at_call 301
           with_reducible refine (S1.out _).mono ?_
           rintro e w1 ⟨rfl, hb1⟩
           have W1 := Lib.hid hb1
           clear hb1)
        | (go_at_call 301
           with_reducible refine (S2.out _).mono ?_
           rintro e w2 ⟨rfl, hb2⟩
           have W2 := Lib.hid (below_step W1.out hb2)
           clear hb2))
      go_ret
      exact ⟨rfl, W2.out⟩
    · have t2 : decide (n ≤ (2921939 : Int)) = false := decide_eq_false h2
      obtain rfl : b = false := by rw [hb]; exact decide_eq_false (fun h => h2 h.2)
      clear hb h1 h2
      go_enter Tryz.func265, Tryz.ntmps265
      go_wp2_with (first
        | (go_at_call 301
           with_reducible refine (S1.out _).mono ?_
           rintro e w1 ⟨rfl, hb1⟩
           have W1 := Lib.hid hb1
           clear hb1)
        | (go_at_call 301
           with_reducible refine (S2.out _).mono ?_
           rintro e w2 ⟨rfl, hb2⟩
           have W2 := Lib.hid (below_step W1.out hb2)
           clear hb2))
      go_ret
      exact ⟨rfl, W2.out⟩
  · have t1 : decide ((-730119 : Int) ≤ n) = false := decide_eq_false h1
    obtain rfl : b = false := by rw [hb]; exact decide_eq_false (fun h => h1 h.1)
    clear hb h1
    go_enter Tryz.func265, Tryz.ntmps265
    go_wp2_with (first
      | (go_at_call 301
         with_reducible refine (S1.out _).mono ?_
         rintro e w1 ⟨rfl, hb1⟩
         have W1 := Lib.hid hb1
         clear hb1))
    go_ret
    exact ⟨rfl, W1.out⟩
set_option maxRecDepth 100000 in
set_option maxHeartbeats 4000000 in
theorem rdateof (d y : Int) (hy : YearIs d y) (w : World) : Calls Tryz.prog 266 #[.int .i64 d] w fun e w' => (∃ m k : Int, e = .returned (.agg #[.int .i64 y, .int .i64 m, .int .i64 k])) ∧ Below w.heap.size w w' := by
  obtain ⟨Y, hY⟩ : ∃ Y : Nat, (Y : Int) = y := ⟨y.toNat, by have := hy.lo; omega⟩
  have h1 := hy.lo
  have h2 := hy.hi
  have HY := Lib.hid hy
  have SB := Lib.hid fun (k : Nat) k1 k2 w => rbefore5 k k1 k2 w
  have S2 : Hid (∀ w, Calls Tryz.prog 302 #[.int .i64 2000] w fun e w' => e = .returned (.int .i64 730119) ∧ w = w') := fun w => by
    have := rbefore5 2000 (by omega) (by omega) w
    rwa [show yb ((2000 : Nat) : Int) + 730119 = 730119 by decide] at this
  have s4 := fun (k : Nat) k1 k2 w => rdays Y k (by omega) (by omega) k1 k2 w
  rw [show leapB (Y : Int) = leapB y by rw [hY]] at s4
  have S4 := Lib.hid s4
  have HYN : Hid (1 ≤ Y ∧ Y ≤ 9999) := by show _ ∧ _; omega
  have HYY := Lib.hid hY
  have hd1 := hy.a
  have hd2 := hy.b
  have hb1 := yb_le h1
  have hb2 := yb_le (show y + 1 ≤ 10000 by omega)
  rw [yb_1] at hb1
  rw [yb_10000] at hb2
  have HDB : Hid (-730119 ≤ d ∧ d < 2921940) := by show _ ∧ _; omega
  have B0 : Hid (Blk (w.alloc (Obj.cells #[.int .i64 0, .int .i64 0, .int .i64 0] 262)) w.heap.size 262 #[.int .i64 0, .int .i64 0, .int .i64 0]) := Blk.new _ _ _
  have W0 : Hid (Below w.heap.size w (w.alloc (Obj.cells #[.int .i64 0, .int .i64 0, .int .i64 0] 262))) := (Below.refl _ _).alloc (Nat.le_refl _) _
  clear hy h1 h2 s4 hd1 hd2 hb1 hb2 hY
  go_enter Tryz.func266, Tryz.ntmps266
  go_wp2_with fail
  go_loopw [3, 4] (fun u v wr => ∃ lo hi : Nat, Hid (1 ≤ lo ∧ lo ≤ Y ∧ Y ≤ hi ∧ hi ≤ 9999) ∧ u = .int .i64 lo ∧ v = .int .i64 hi ∧ Hid (Blk wr w.heap.size 262 #[.int .i64 0, .int .i64 0, .int .i64 0] ∧ Below w.heap.size w wr)) (fun u v _ => ((intOf v) - (intOf u)).toNat)
  case atStart => exact ⟨1, 9999, by show _ ∧ _; have := HYN.out; omega, rfl, rfl, B0.out, W0.out⟩
  case round =>
    obtain ⟨lo, hi, HL, rfl, rfl, HR⟩ := hrel
    by_cases hlt : lo < hi
    · have T0 : decide ((lo : Int) < (hi : Int)) = true := by simp <;> omega
      have T0' : decide (lo < hi) = true := decide_eq_true hlt
      obtain ⟨s, hs⟩ : ∃ z, z = lo + hi := ⟨_, rfl⟩
      obtain ⟨s1, hs1⟩ : ∃ z, z = s + 1 := ⟨_, rfl⟩
      obtain ⟨md, hmd⟩ : ∃ z, z = s1 / 2 := ⟨_, rfl⟩
      have hl := HL.out
      have y1 : IntKind.i64.wrap ((lo : Int) + (hi : Int)) = (s : Int) := by rw [IntKind.wrap_i64]; omega
      have y2 : IntKind.i64.wrap ((s : Int) + 1) = (s1 : Int) := by rw [IntKind.wrap_i64]; omega
      have y3 : Int.tdiv (s1 : Int) 2 = (md : Int) := by rw [hmd]; exact Int.ofNat_tdiv s1 2
      have y3w : IntKind.i64.wrap (md : Int) = (md : Int) := by rw [IntKind.wrap_i64]; omega
      have S1 := Lib.hid fun w => SB.out md (by omega) (by omega) w
      have b1 := yb_le (show (1 : Int) ≤ (md : Int) by omega)
      have b2 := yb_le (show (md : Int) ≤ 10000 by omega)
      rw [yb_1] at b1
      rw [yb_10000] at b2
      obtain ⟨z, hz⟩ : ∃ z, z = yb (md : Int) := ⟨_, rfl⟩
      rw [← hz] at S1 b1 b2
      obtain ⟨z2, hz2⟩ : ∃ a, a = z + 730119 := ⟨_, rfl⟩
      rw [← hz2] at S1
      have y4 : IntKind.i64.wrap (z2 - 730119) = z := by rw [IntKind.wrap_i64]; omega
      have y5 : IntKind.i64.wrap ((md : Int) - 1) = ((md - 1 : Nat) : Int) := by rw [IntKind.wrap_i64]; omega
      have hya := HY.out.a
      have hyb := HY.out.b
      have hyy := HYY.out
      by_cases hle : z ≤ d
      · have t1 : decide (z ≤ d) = true := decide_eq_true hle
        have hmy : md ≤ Y := by
          rcases Nat.lt_or_ge Y md with g | g
          · have := yb_le (show y + 1 ≤ (md : Int) by omega); omega
          · exact g
        have HL' : Hid (1 ≤ md ∧ md ≤ Y ∧ Y ≤ hi ∧ hi ≤ 9999) := by show _ ∧ _; omega
        have HMS : Hid (((hi : Int) - (md : Int)).toNat < ((hi : Int) - (lo : Int)).toNat) := by show _ < _; omega
        clear hlt hs hs1 hmd hl b1 b2 hz hz2 hle hmy hya hyb hyy
        go_wp2_with (first
          | (go_at_call 302; (with_reducible refine (S1.out _).mono ?_); rintro e w' ⟨rfl, rfl⟩)
          | (go_at_call 302; (with_reducible refine (S2.out _).mono ?_); rintro e w' ⟨rfl, rfl⟩))
        go_roundw
        case rel => exact ⟨md, hi, HL', rfl, rfl, HR⟩
        case measure => exact HMS.out
      · have t1 : decide (z ≤ d) = false := decide_eq_false hle
        have hmy : Y ≤ md - 1 := by
          rcases Nat.lt_or_ge Y md with g | g
          · omega
          · have := yb_le (show (md : Int) ≤ y by omega); omega
        obtain ⟨h3, hh3⟩ : ∃ z, z = md - 1 := ⟨_, rfl⟩
        rw [← hh3] at y5 hmy
        have HL' : Hid (1 ≤ lo ∧ lo ≤ Y ∧ Y ≤ h3 ∧ h3 ≤ 9999) := by show _ ∧ _; omega
        have HMS : Hid (((h3 : Int) - (lo : Int)).toNat < ((hi : Int) - (lo : Int)).toNat) := by show _ < _; omega
        clear hlt hs hs1 hmd hl b1 b2 hz hz2 hle hmy hya hyb hyy hh3
        go_wp2_with (first
          | (go_at_call 302; (with_reducible refine (S1.out _).mono ?_); rintro e w' ⟨rfl, rfl⟩)
          | (go_at_call 302; (with_reducible refine (S2.out _).mono ?_); rintro e w' ⟨rfl, rfl⟩))
        go_roundw
        case rel => exact ⟨lo, h3, HL', rfl, rfl, HR⟩
        case measure => exact HMS.out
    · have hin : Y = lo ∧ Y = hi := by have := HL.out; omega
      obtain ⟨hlo, hhi⟩ := hin
      subst hlo hhi
      have S1 := fun w => SB.out Y HL.out.1 (by have := HL.out; omega) w
      obtain ⟨z, hz⟩ : ∃ z, z = yb (Y : Int) := ⟨_, rfl⟩
      have hya := HY.out.a
      have hyb := HY.out.b
      have ht := tail_1 y
      have hyy := HYY.out
      rw [hyy] at hz
      rw [← hz] at hya ht
      rw [hyy, ← hz] at S1
      rw [← hyy] at S1
      obtain ⟨z2, hz2⟩ : ∃ a, a = z + 730119 := ⟨_, rfl⟩
      rw [← hz2] at S1
      have hdb := HDB.out
      have hyl := HY.out.lo
      have b1 := yb_le hyl
      rw [yb_1, ← hz] at b1
      obtain ⟨l0, hl0⟩ : ∃ a, a = d - z := ⟨_, rfl⟩
      have y4 : IntKind.i64.wrap (z2 - 730119) = z := by rw [IntKind.wrap_i64]; omega
      have y5 : IntKind.i64.wrap (d - z) = l0 := by rw [IntKind.wrap_i64]; omega
      have S1 := Lib.hid S1
      obtain ⟨lp, hlp⟩ : ∃ z, z = leapB y := ⟨_, rfl⟩
      rw [← hlp] at S4 ht
      have HT1 : Hid (0 ≤ l0 ∧ l0 < tail_ lp 1) := by show _ ∧ _; omega
      clear hlt hz hya hyb ht hyy hz2 hdb hyl b1 hl0 hlp
      go_wp2_with (first
        | (go_at_call 302; (with_reducible refine (S1.out _).mono ?_); rintro e w' ⟨rfl, rfl⟩)
        | (go_at_call 302; (with_reducible refine (S2.out _).mono ?_); rintro e w' ⟨rfl, rfl⟩))
      obtain ⟨wE, hwE⟩ : ∃ z, z = wr := ⟨_, rfl⟩
      subst hwE
      go_loopw [6, 7] (fun u v wr => ∃ (m : Nat) (l : Int), Hid (1 ≤ m ∧ m ≤ 12 ∧ 0 ≤ l ∧ l < tail_ lp m) ∧ u = .int .i64 l ∧ v = .int .i64 m ∧ Hid (Blk wr w.heap.size 262 #[.int .i64 0, .int .i64 0, .int .i64 0] ∧ Below w.heap.size w wr)) (fun _ v _ => (13 - intOf v).toNat)
      case atStart => exact ⟨1, l0, ⟨by omega, by omega, HT1.out.1, HT1.out.2⟩, rfl, rfl, HR.out⟩
      case round =>
        obtain ⟨m, l, HM, rfl, rfl, HQ⟩ := hrel
        have hlb := lens_bound lp HM.out.1 HM.out.2.1
        have hts := tail_step lp HM.out.1 HM.out.2.1
        have htb := tail_bound lp HM.out.1 HM.out.2.1
        have hm := HM.out
        have S5 := Lib.hid fun w => S4.out m HM.out.1 HM.out.2.1 w
        obtain ⟨L, hL⟩ : ∃ L, L = lens lp m := ⟨_, rfl⟩
        rw [← hL] at S5 hlb hts
        by_cases hk : L ≤ l
        · have t1 : decide (L ≤ l) = true := decide_eq_true hk
          have hm12 : m < 12 := by
            rcases Nat.lt_or_ge m 12 with h | h
            · exact h
            · obtain rfl : m = 12 := by omega
              have h13 : tail_ lp (12 + 1) = 0 := rfl
              omega
          obtain ⟨l2, hl2⟩ : ∃ z, z = l - L := ⟨_, rfl⟩
          have f1 : IntKind.i64.wrap (l - L) = l2 := by rw [IntKind.wrap_i64]; omega
          obtain ⟨m', hm'⟩ : ∃ m' : Nat, m' = m + 1 := ⟨_, rfl⟩
          have f2 : IntKind.i64.wrap ((m : Int) + 1) = (m' : Int) := by rw [IntKind.wrap_i64]; omega
          have HM' : Hid (1 ≤ m' ∧ m' ≤ 12 ∧ 0 ≤ l2 ∧ l2 < tail_ lp m') := by rw [hm']; show _ ∧ _; refine ⟨by omega, by omega, by omega, by omega⟩
          have HMS : Hid ((13 - (intOf (Value.int .i64 (m' : Int)))).toNat < (13 - (intOf (Value.int .i64 (m : Int)))).toNat) := by show _ < _; simp [intOf]; omega
          clear hlb hts htb hm hL hk hm12 hl2 hm'
          go_wp2_with (first
            | (go_at_call 303
               with_reducible refine (S5.out _).mono ?_
               rintro e w1 ⟨rfl, hb1⟩
               have HQ1 : Hid (Blk w1 w.heap.size 262 #[.int .i64 0, .int .i64 0, .int .i64 0] ∧ Below w.heap.size w w1) := ⟨HQ.out.1.call hb1, below_step HQ.out.2 hb1⟩
               clear hb1
               go_wp2_with (go_at_call 303
                            with_reducible refine (S5.out _).mono ?_
                            rintro e w2 ⟨rfl, hb2⟩
                            have HQ2 : Hid (Blk w2 w.heap.size 262 #[.int .i64 0, .int .i64 0, .int .i64 0] ∧ Below w.heap.size w w2) := ⟨HQ1.out.1.call hb2, below_step HQ1.out.2 hb2⟩
                            clear hb2)))
          go_roundw
          case rel => exact ⟨m', l2, HM', rfl, rfl, HQ2⟩
          case measure => exact HMS.out
        · have t1 : decide (L ≤ l) = false := decide_eq_false hk
          obtain ⟨l2, hl2⟩ : ∃ z, z = l + 1 := ⟨_, rfl⟩
          have f1 : IntKind.i64.wrap (l + 1) = l2 := by rw [IntKind.wrap_i64]; omega
          clear hlb hts htb hm hL hk hl2
          go_wp2_with (first
            | (go_at_call 303
               with_reducible refine (S5.out _).mono ?_
               rintro e w1 ⟨rfl, hb1⟩
               have hx := HQ.out.1.call hb1
               have HW1 := Lib.hid (below_step HQ.out.2 hb1)
               have HX := Lib.hid hx
               obtain ⟨q0, q1, q2⟩ := date_cells hx
               obtain ⟨r0, r1, r2⟩ := frozen3 hx
               have hl := hx.lt
               clear hb1 hx))
          have hz := split_end (a := (Y : Int)) (b := (m : Int)) (c := l2) HX.out HW1.out rfl
          have hz1 := hz.1
          have HZ2 := Lib.hid hz.2
          clear hz q0 q1 q2 r0 r1 r2
          generalize (((w1.setCell ⟨w.heap.size, 0, none⟩ (.int .i64 (Y : Int))).setCell ⟨w.heap.size, 1, none⟩ (.int .i64 (m : Int))).setCell ⟨w.heap.size, 2, none⟩ (.int .i64 l2)) = wq at hz1 HZ2 ⊢
          obtain ⟨s0, s1, s2⟩ := date_cells hz1
          refine bodyPost_ret (v := .agg #[.int .i64 (Y : Int), .int .i64 (m : Int), .int .i64 l2]) (by simp [results, Tryz.results266, go_sem, *]) rfl ⟨⟨_, _, by rw [HYY.out]⟩, HZ2.out⟩
end Go.Proofs.YtfldmnikdejekaaGreatDoor

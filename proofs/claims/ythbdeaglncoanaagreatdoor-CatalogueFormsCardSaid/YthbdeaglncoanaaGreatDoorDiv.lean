/- math/bits.Div64: the quotient and the rest of a number of 128 bits, for a divisor above the high part. -/
import Derived.Test.YthbdeaglncoanaaGreatDoorLeaf
import Derived.Test.YthbdeaglncoanaaGreatDoorNum
import Derived.Test.YthbdeaglncoanaaGreatDoorShelf
import Derived.Deep.QuietTactic
import Derived.BigQuiet
import Derived.IntWalk
import Derived.Deep.CutBlock
import Derived.Deep.CutRange
namespace Go.Proofs.YthbdeaglncoanaaGreatDoor
open Go.RowKit
set_option linter.unusedVariables false
set_option linter.unusedSimpArgs false

set_option maxHeartbeats 1000000 in
theorem div64_low (lo y : Nat) (hl : lo < 18446744073709551616) (hy : y < 18446744073709551616) (h : 0 < y) (w : World) :
    Calls Tryz.prog 59 #[.int .u64 ((0 : Nat) : Int), .int .u64 (lo : Int), .int .u64 (y : Int)] w fun e w' => e = .returned (.tuple #[.int .u64 ((lo / y : Nat) : Int), .int .u64 ((lo % y : Nat) : Int)]) ∧ ∃ n, w' = w.drewN n := by
  obtain ⟨q, hq, hb⟩ : ∃ q : Nat, q = lo / y ∧ q < 18446744073709551616 := ⟨_, rfl, Nat.lt_of_le_of_lt (Nat.div_le_self _ _) hl⟩
  obtain ⟨r, hr⟩ : ∃ r : Nat, r = lo % y := ⟨_, rfl⟩
  have h1 : (lo : Int) / (y : Int) = (q : Int) := by rw [hq]; simp
  have h2 : (lo : Int) % (y : Int) = (r : Int) := by rw [hr]; simp
  have h3 : IntKind.u64.wrap ((q : Nat) : Int) = (q : Int) := Half.wrapN _ hb
  rw [← hq, ← hr]
  clear hq hr
  go_enter Tryz.func59, Tryz.ntmps59
  go_wp2
  go_quiet (fail)
  go_wp2
  go_ret2
  exact ⟨ret_two rfl h2, _, rfl⟩

set_option maxRecDepth 100000 in
set_option maxHeartbeats 4000000 in
theorem div64_core (hi lo y s L K K2 Y y1 y0 H l2 U D d1 d0 q0 r0 A B Q : Nat) (hh : hi < y) (h0 : 0 < hi) (hl : lo < 18446744073709551616) (hy : y < 18446744073709551616)
    (by1 : 2147483648 ≤ y1) (by1' : y1 < 4294967296) (by0 : y0 < 4294967296) (bd1 : d1 < 4294967296) (bd0 : d0 < 4294967296)
    (E1 : IntKind.u64.wrap (64 - (Lib.bitLen y : Int)) = (s : Int)) (E2 : min s 64 = s) (E3 : (2 : Int) ^ s = (K : Int)) (E4 : IntKind.u64.wrap ((y : Int) * (K : Int)) = (Y : Int))
    (E5 : (Y : Int) / 4294967296 = (y1 : Int)) (E6 : bits .and .u64 (Y : Int) 4294967295 = (y0 : Int)) (E7 : IntKind.u64.wrap ((hi : Int) * (K : Int)) = (H : Int))
    (E8 : IntKind.u64.wrap (64 - (s : Int)) = (L : Int)) (E9 : min L 64 = L) (E10 : (2 : Int) ^ L = (K2 : Int)) (E11 : (lo : Int) / (K2 : Int) = (l2 : Int))
    (E12 : bits .or .u64 (H : Int) (l2 : Int) = (U : Int)) (E13 : IntKind.u64.wrap ((lo : Int) * (K : Int)) = (D : Int)) (E14 : (D : Int) / 4294967296 = (d1 : Int)) (E15 : bits .and .u64 (D : Int) 4294967295 = (d0 : Int))
    (E16 : IntKind.u64.wrap ((U : Int) / (y1 : Int)) = (q0 : Int)) (E17 : IntKind.u64.wrap ((U : Int) - IntKind.u64.wrap ((q0 : Int) * (y1 : Int))) = (r0 : Int))
    (HD : Hid (Num.DInv6 y1 y0 U d1 q0 r0)) (hUY : Hid (U < y1 * 4294967296 + y0)) (hQ : Hid (Q = (U * 4294967296 + d1) / (y1 * 4294967296 + y0)))
    (m1 m2 m3 R q2 t2 r2 Q2 m4 m5 m6 m7 : Nat) (F1 : IntKind.u64.wrap ((U : Int) * 4294967296) = (m1 : Int)) (F2 : IntKind.u64.wrap ((m1 : Int) + (d1 : Int)) = (m2 : Int)) (F3 : IntKind.u64.wrap ((Q : Int) * (Y : Int)) = (m3 : Int)) (F4 : IntKind.u64.wrap ((m2 : Int) - (m3 : Int)) = (R : Int))
    (F5 : IntKind.u64.wrap ((R : Int) / (y1 : Int)) = (q2 : Int)) (F6 : IntKind.u64.wrap ((q2 : Int) * (y1 : Int)) = (t2 : Int)) (F7 : IntKind.u64.wrap ((R : Int) - (t2 : Int)) = (r2 : Int))
    (HD2 : Hid (Num.DInv6 y1 y0 R d0 q2 r2)) (hRY : Hid (R < y1 * 4294967296 + y0)) (hQ2 : Hid (Q2 = (R * 4294967296 + d0) / (y1 * 4294967296 + y0)))
    (F8 : IntKind.u64.wrap ((Q : Int) * 4294967296) = (m4 : Int)) (F9 : IntKind.u64.wrap ((m4 : Int) + (Q2 : Int)) = (A : Int)) (F10 : IntKind.u64.wrap ((R : Int) * 4294967296) = (m5 : Int)) (F11 : IntKind.u64.wrap ((m5 : Int) + (d0 : Int)) = (m6 : Int))
    (F12 : IntKind.u64.wrap ((Q2 : Int) * (Y : Int)) = (m7 : Int)) (F13 : IntKind.u64.wrap ((m6 : Int) - (m7 : Int)) / (K : Int) = (B : Int)) (w : World) :
    Calls Tryz.prog 59 #[.int .u64 (hi : Int), .int .u64 (lo : Int), .int .u64 (y : Int)] w fun e w' => e = .returned (.tuple #[.int .u64 (A : Int), .int .u64 (B : Int)]) ∧ w = w' := by
  have hL := (Num.bit_bounds y (by omega) hy).2.1
  have hy0 : ((y : Int) == 0) = false := by simp; omega
  have hi0 : ((hi : Int) == 0) = false := by simp; omega
  have hn : ¬ y ≤ hi := by omega
  go_enter Tryz.func59, Tryz.ntmps59
  go_upto_block 0 with (go_at_call 75; refine (Tryz.bits_LeadingZeros64 _ _ (by omega) (by omega)).mono ?_; rintro e w' ⟨rfl, rfl⟩)
  have HE2 := Lib.hid E2
  clear E1 E2 E4 E5 E6 E7 E8 E9 E10 E11 E12 E13 E14 E15 E16 E17 hy0 hi0 hn hh h0 hl hy hL
  go_cut [15, 16] from 67 to 85 (fun a b wx => a = .int .u64 (Q : Int) ∧ (∃ r : Nat, b = .int .u64 (r : Int)) ∧ w' = wx)
  case first =>
    clear F1 F2 F3 F4 F5 F6 F7 F8 F9 F10 F11 F12 F13 HD2 hRY hQ2
    go_wp2_with fail
    go_loop [15, 16] (fun a b => ∃ q r : Nat, Hid (Num.DInv6 y1 y0 U d1 q r) ∧ a = .int .u64 q ∧ b = .int .u64 r) (fun a _ => (intOf a).toNat)
    case atStart => exact ⟨q0, r0, HD, rfl, rfl⟩
    case round =>
      obtain ⟨q, r, hI, rfl, rfl⟩ := hrel
      obtain ⟨r', hr'⟩ : ∃ r' : Nat, Hid (r' = r + y1) := ⟨_, rfl⟩
      have S1 : IntKind.u64.wrap ((r : Int) + (y1 : Int)) = (r' : Int) := by rw [hr'.out, IntKind.wrap_u64]; have := hI.out.2.1; omega
      obtain ⟨p, hp⟩ : ∃ p : Nat, Hid (p = q - 1) := ⟨_, rfl⟩
      obtain ⟨u, hu⟩ : ∃ u : Nat, Hid (u = q * y0) := ⟨_, rfl⟩
      obtain ⟨v, hv⟩ : ∃ v : Nat, Hid (v = 4294967296 * r) := ⟨_, rfl⟩
      obtain ⟨x, hx⟩ : ∃ x : Nat, Hid (x = v + d1) := ⟨_, rfl⟩
      have S3 : IntKind.u64.wrap (4294967296 * (r : Int)) = (v : Int) := by rw [hv.out, IntKind.wrap_u64]; have := hI.out.2.1; omega
      have S4 : IntKind.u64.wrap ((v : Int) + (d1 : Int)) = (x : Int) := by rw [hx.out, hv.out, IntKind.wrap_u64]; have := hI.out.2.1; omega
      have py1 : 0 < y1 := by omega
      have Hpy := Lib.hid py1
      have Hby := Lib.hid by0
      have go (hQ' : (U * 4294967296 + d1) / (y1 * 4294967296 + y0) < q) : IntKind.u64.wrap ((q : Int) - 1) = (p : Int) := by rw [hp.out, IntKind.wrap_u64]; have := hI.out.2.2.2; have := (Num.dpos hQ' hI.out).1; omega
      by_cases hq : 4294967296 ≤ q
      · have hQ' : Hid ((U * 4294967296 + d1) / (y1 * 4294967296 + y0) < q) := Num.dbig hUY.out bd1 hq
        have S2 := go hQ'.out
        have T1 : decide ((4294967296 : Int) ≤ (q : Int)) = true := by simp; omega
        have Hq := Lib.hid hq
        clear hq go S3 S4
        by_cases hb : r' < 4294967296
        · have T2 : decide ((4294967296 : Int) ≤ (r' : Int)) = false := by simp; omega
          have Hb := Lib.hid hb
          clear hb by1 by1' by0 bd1 bd0 py1
          go_wp2_with fail
          go_round
          case rel => exact ⟨p, r', by have h1 := Num.dnext hI.out hQ'.out (by have := Hb.out; have := hr'.out; omega); rw [hp.out, hr'.out]; exact h1, rfl, rfl⟩
          case measure => simp [intOf]; rw [hp.out]; have := (Num.dpos hQ'.out hI.out).1; omega
        · have T2 : decide ((4294967296 : Int) ≤ (r' : Int)) = true := by simp; omega
          have Hb := Lib.hid hb
          clear hb by1 by1' by0 bd1 bd0 py1
          go_wp2_with fail
          go_meet
          case rel => exact ⟨by rw [hQ.out, ← Num.dbreak hI.out hQ'.out Hpy.out Hby.out (by have := Hb.out; have := hr'.out; omega), hp.out], ⟨r', rfl⟩, rfl⟩
      · have T1 : decide ((4294967296 : Int) ≤ (q : Int)) = false := by simp; omega
        have S5 : IntKind.u64.wrap ((q : Int) * (y0 : Int)) = (u : Int) := by
          rw [hu.out, IntKind.wrap_u64, ← Int.natCast_mul]
          have := Nat.mul_le_mul (by omega : q ≤ 4294967295) (by omega : y0 ≤ 4294967295)
          omega
        have Hq := Lib.hid hq
        clear hq
        by_cases ht : u ≤ x
        · have T2 : decide (x < u) = false := by simp; omega
          have Ht := Lib.hid ht
          clear ht by1 by1' by0 bd1 bd0 py1 go
          go_wp2_with fail
          go_meet
          case rel => exact ⟨by rw [hQ.out, ← Num.dstop hI.out Hpy.out (by have h1 := Ht.out; rw [hu.out, hx.out, hv.out] at h1; exact h1)], ⟨r, rfl⟩, rfl⟩
        · have hQ' : Hid ((U * 4294967296 + d1) / (y1 * 4294967296 + y0) < q) := Num.dover hI.out py1 (by rw [hu.out, hx.out, hv.out] at ht; omega)
          have S2 := go hQ'.out
          have T2 : decide (x < u) = true := by simp; omega
          have Ht := Lib.hid ht
          clear ht go
          by_cases hb : r' < 4294967296
          · have T3 : decide ((4294967296 : Int) ≤ (r' : Int)) = false := by simp; omega
            have Hb := Lib.hid hb
            clear hb by1 by1' by0 bd1 bd0 py1
            go_wp2_with fail
            go_round
            case rel => exact ⟨p, r', by have h1 := Num.dnext hI.out hQ'.out (by have := Hb.out; have := hr'.out; omega); rw [hp.out, hr'.out]; exact h1, rfl, rfl⟩
            case measure => simp [intOf]; rw [hp.out]; have := (Num.dpos hQ'.out hI.out).1; omega
          · have T3 : decide ((4294967296 : Int) ≤ (r' : Int)) = true := by simp; omega
            have Hb := Lib.hid hb
            clear hb by1 by1' by0 bd1 bd0 py1
            go_wp2_with fail
            go_meet
            case rel => exact ⟨by rw [hQ.out, ← Num.dbreak hI.out hQ'.out Hpy.out Hby.out (by have := Hb.out; have := hr'.out; omega), hp.out], ⟨r', rfl⟩, rfl⟩
  case rest =>
    obtain ⟨rfl, ⟨r, rfl⟩, rfl⟩ := hcut
    have hp1 : (1 : Int) ≤ (y1 : Int) := by omega
    have hz : ¬ y1 = 0 := by omega
    have by1h := Lib.hid by1
    have by1h' := Lib.hid by1'
    have by0h := Lib.hid by0
    have bd0h := Lib.hid bd0
    clear by1 by1' by0 bd1 bd0
    go_upto_block 2 with fail
    clear F1 F2 F3 F4 F5 F6 F7 hp1 hz
    go_cut [18, 16] from 102 to 120 (fun a b wx => a = .int .u64 (Q2 : Int) ∧ (∃ r : Nat, b = .int .u64 (r : Int)) ∧ w' = wx)
    case first =>
      clear F8 F9 F10 F11 F12 F13
      have by1 := by1h.out
      have by1' := by1h'.out
      have by0 := by0h.out
      have bd0 := bd0h.out
      have bd1 : True := trivial
      go_wp2_with fail
      go_loop [18, 16] (fun a b => ∃ q r : Nat, Hid (Num.DInv6 y1 y0 R d0 q r) ∧ a = .int .u64 q ∧ b = .int .u64 r) (fun a _ => (intOf a).toNat)
      case atStart => exact ⟨q2, r2, HD2, rfl, rfl⟩
      case round =>
        obtain ⟨q, r, hI, rfl, rfl⟩ := hrel
        obtain ⟨r', hr'⟩ : ∃ r' : Nat, Hid (r' = r + y1) := ⟨_, rfl⟩
        have S1 : IntKind.u64.wrap ((r : Int) + (y1 : Int)) = (r' : Int) := by rw [hr'.out, IntKind.wrap_u64]; have := hI.out.2.1; omega
        obtain ⟨p, hp⟩ : ∃ p : Nat, Hid (p = q - 1) := ⟨_, rfl⟩
        obtain ⟨u, hu⟩ : ∃ u : Nat, Hid (u = q * y0) := ⟨_, rfl⟩
        obtain ⟨v, hv⟩ : ∃ v : Nat, Hid (v = 4294967296 * r) := ⟨_, rfl⟩
        obtain ⟨x, hx⟩ : ∃ x : Nat, Hid (x = v + d0) := ⟨_, rfl⟩
        have S3 : IntKind.u64.wrap (4294967296 * (r : Int)) = (v : Int) := by rw [hv.out, IntKind.wrap_u64]; have := hI.out.2.1; omega
        have S4 : IntKind.u64.wrap ((v : Int) + (d0 : Int)) = (x : Int) := by rw [hx.out, hv.out, IntKind.wrap_u64]; have := hI.out.2.1; omega
        have py1 : 0 < y1 := by omega
        have Hpy := Lib.hid py1
        have Hby := Lib.hid by0
        have go (hQ' : (R * 4294967296 + d0) / (y1 * 4294967296 + y0) < q) : IntKind.u64.wrap ((q : Int) - 1) = (p : Int) := by rw [hp.out, IntKind.wrap_u64]; have := hI.out.2.2.2; have := (Num.dpos hQ' hI.out).1; omega
        by_cases hq : 4294967296 ≤ q
        · have hQ' : Hid ((R * 4294967296 + d0) / (y1 * 4294967296 + y0) < q) := Num.dbig hRY.out bd0 hq
          have S2 := go hQ'.out
          have T1 : decide ((4294967296 : Int) ≤ (q : Int)) = true := by simp; omega
          have Hq := Lib.hid hq
          clear hq go S3 S4
          by_cases hb : r' < 4294967296
          · have T2 : decide ((4294967296 : Int) ≤ (r' : Int)) = false := by simp; omega
            have Hb := Lib.hid hb
            clear hb by1 by1' by0 bd1 bd0 py1
            go_wp2_with fail
            go_round
            case rel => exact ⟨p, r', by have h1 := Num.dnext hI.out hQ'.out (by have := Hb.out; have := hr'.out; omega); rw [hp.out, hr'.out]; exact h1, rfl, rfl⟩
            case measure => simp [intOf]; rw [hp.out]; have := (Num.dpos hQ'.out hI.out).1; omega
          · have T2 : decide ((4294967296 : Int) ≤ (r' : Int)) = true := by simp; omega
            have Hb := Lib.hid hb
            clear hb by1 by1' by0 bd1 bd0 py1
            go_wp2_with fail
            go_meet
            case rel => exact ⟨by rw [hQ2.out, ← Num.dbreak hI.out hQ'.out Hpy.out Hby.out (by have := Hb.out; have := hr'.out; omega), hp.out], ⟨r', rfl⟩, rfl⟩
        · have T1 : decide ((4294967296 : Int) ≤ (q : Int)) = false := by simp; omega
          have S5 : IntKind.u64.wrap ((q : Int) * (y0 : Int)) = (u : Int) := by
            rw [hu.out, IntKind.wrap_u64, ← Int.natCast_mul]
            have := Nat.mul_le_mul (by omega : q ≤ 4294967295) (by omega : y0 ≤ 4294967295)
            omega
          have Hq := Lib.hid hq
          clear hq
          by_cases ht : u ≤ x
          · have T2 : decide (x < u) = false := by simp; omega
            have Ht := Lib.hid ht
            clear ht by1 by1' by0 bd1 bd0 py1 go
            go_wp2_with fail
            go_meet
            case rel => exact ⟨by rw [hQ2.out, ← Num.dstop hI.out Hpy.out (by have h1 := Ht.out; rw [hu.out, hx.out, hv.out] at h1; exact h1)], ⟨r, rfl⟩, rfl⟩
          · have hQ' : Hid ((R * 4294967296 + d0) / (y1 * 4294967296 + y0) < q) := Num.dover hI.out py1 (by rw [hu.out, hx.out, hv.out] at ht; omega)
            have S2 := go hQ'.out
            have T2 : decide (x < u) = true := by simp; omega
            have Ht := Lib.hid ht
            clear ht go
            by_cases hb : r' < 4294967296
            · have T3 : decide ((4294967296 : Int) ≤ (r' : Int)) = false := by simp; omega
              have Hb := Lib.hid hb
              clear hb by1 by1' by0 bd1 bd0 py1
              go_wp2_with fail
              go_round
              case rel => exact ⟨p, r', by have h1 := Num.dnext hI.out hQ'.out (by have := Hb.out; have := hr'.out; omega); rw [hp.out, hr'.out]; exact h1, rfl, rfl⟩
              case measure => simp [intOf]; rw [hp.out]; have := (Num.dpos hQ'.out hI.out).1; omega
            · have T3 : decide ((4294967296 : Int) ≤ (r' : Int)) = true := by simp; omega
              have Hb := Lib.hid hb
              clear hb by1 by1' by0 bd1 bd0 py1
              go_wp2_with fail
              go_meet
              case rel => exact ⟨by rw [hQ2.out, ← Num.dbreak hI.out hQ'.out Hpy.out Hby.out (by have := Hb.out; have := hr'.out; omega), hp.out], ⟨r', rfl⟩, rfl⟩
    case rest =>
      obtain ⟨rfl, ⟨r, rfl⟩, rfl⟩ := hcut
      go_wp2_with fail
      go_ret2
      exact ⟨ret_two rfl (by rw [HE2.out, E3]; exact F13), rfl⟩

theorem wsub {n t R m3 : Nat} (h : n = t + R) (hR : R < 18446744073709551616) (h3 : m3 = t % 18446744073709551616) : IntKind.u64.wrap (((n % 18446744073709551616 : Nat) : Int) - (m3 : Int)) = (R : Int) := by
  rw [IntKind.wrap_u64, h3]; omega

theorem wone (L : Nat) (h : L ≤ 64) : IntKind.u64.wrap (64 - (L : Int)) = ((64 - L : Nat) : Int) := by rw [IntKind.wrap_u64]; omega
theorem wtwo (L : Nat) (h : L ≤ 64) : IntKind.u64.wrap (64 - ((64 - L : Nat) : Int)) = (L : Int) := by rw [IntKind.wrap_u64]; omega
theorem wdiv (a b : Nat) (h : a < 18446744073709551616) : IntKind.u64.wrap ((a : Int) / (b : Int)) = ((a / b : Nat) : Int) := by
  rw [← Int.natCast_ediv]; exact Half.wrapN _ (Nat.lt_of_le_of_lt (Nat.div_le_self _ _) h)
theorem wback (a b : Nat) (h : a < 18446744073709551616) : IntKind.u64.wrap (((a / b : Nat) : Int) * (b : Int)) = ((a / b * b : Nat) : Int) := by
  rw [Half.mulN]; exact Half.wrapN _ (Nat.lt_of_le_of_lt (Nat.div_mul_le_self _ _) h)
theorem wrest (a b : Nat) (h : a < 18446744073709551616) : IntKind.u64.wrap ((a : Int) - ((a / b * b : Nat) : Int)) = ((a % b : Nat) : Int) := by
  have e : (a : Int) - ((a / b * b : Nat) : Int) = ((a % b : Nat) : Int) := by have := Nat.div_add_mod' a b; omega
  rw [e]; exact Half.wrapN _ (Nat.lt_of_le_of_lt (Nat.mod_le _ _) h)
theorem wmod (a b : Nat) (h : a < 18446744073709551616) : IntKind.u64.wrap ((a : Int) - IntKind.u64.wrap (((a / b : Nat) : Int) * (b : Int))) = ((a % b : Nat) : Int) := by
  rw [wback a b h, wrest a b h]
theorem wshl (a : Nat) : IntKind.u64.wrap ((a : Int) * 4294967296) = ((a * 4294967296 % 18446744073709551616 : Nat) : Int) := by rw [IntKind.wrap_u64]; omega
theorem wadd (a b : Nat) : IntKind.u64.wrap (((a * 4294967296 % 18446744073709551616 : Nat) : Int) + (b : Int)) = (((a * 4294967296 + b) % 18446744073709551616 : Nat) : Int) := by rw [IntKind.wrap_u64]; omega
theorem wmul (a b : Nat) : IntKind.u64.wrap ((a : Int) * (b : Int)) = ((a * b % 18446744073709551616 : Nat) : Int) := by rw [Half.mulN]; exact Half.wrapM _
theorem wsum (a b : Nat) (h : a * 4294967296 + b < 18446744073709551616) : IntKind.u64.wrap (((a * 4294967296 % 18446744073709551616 : Nat) : Int) + (b : Int)) = ((a * 4294967296 + b : Nat) : Int) := by rw [IntKind.wrap_u64]; omega

theorem div64_any (hi lo y : Nat) (hh : hi < y) (h0 : 0 < hi) (hl : lo < 18446744073709551616) (hy : y < 18446744073709551616) (N : Nat) (hN : N = hi * 18446744073709551616 + lo) (w : World) :
    Calls Tryz.prog 59 #[.int .u64 (hi : Int), .int .u64 (lo : Int), .int .u64 (y : Int)] w fun e w' => e = .returned (.tuple #[.int .u64 ((N / y : Nat) : Int), .int .u64 ((N % y : Nat) : Int)]) ∧ w = w' := by
  obtain ⟨L1, L2, L3, L4⟩ := Num.bit_bounds y (by omega) hy
  obtain ⟨hY1, hY2, hKK⟩ := Num.shift_up L1 L2 L3 L4
  have hKp : 0 < 2 ^ (64 - Lib.bitLen y) := Nat.pow_pos (by omega)
  have hK2p : 0 < 2 ^ Lib.bitLen y := Nat.pow_pos (by omega)
  obtain ⟨hl2, hUD⟩ := Num.shift_two (hi := hi) hKp hK2p hKK hl
  have hl2K : lo / 2 ^ Lib.bitLen y < 2 ^ (64 - Lib.bitLen y) := hl2
  have hHmod : hi * 2 ^ (64 - Lib.bitLen y) % 2 ^ (64 - Lib.bitLen y) = 0 := Nat.mul_mod_left _ _
  have hor := nat_join (64 - Lib.bitLen y) _ _ hHmod hl2K
  have e3 : ((2 : Int) ^ (64 - Lib.bitLen y)) = ((2 ^ (64 - Lib.bitLen y) : Nat) : Int) := by simp
  have e10 : ((2 : Int) ^ Lib.bitLen y) = ((2 ^ Lib.bitLen y : Nat) : Int) := by simp
  obtain ⟨K, hK⟩ : ∃ K, K = 2 ^ (64 - Lib.bitLen y) := ⟨_, rfl⟩
  obtain ⟨K2, hK2⟩ : ∃ K, K = 2 ^ Lib.bitLen y := ⟨_, rfl⟩
  rw [← hK] at hY1 hY2 hKK hKp hl2 hUD hor e3
  rw [← hK2] at hKK hK2p hl2 hUD hor e10
  clear hK hK2 hl2K hHmod L3 L4
  have hHY : hi * K < y * K := Nat.mul_lt_mul_of_pos_right hh hKp
  obtain ⟨Y, eY⟩ : ∃ Y, Y = y * K := ⟨_, rfl⟩
  obtain ⟨H, eH⟩ : ∃ Y, Y = hi * K := ⟨_, rfl⟩
  obtain ⟨l2, el2⟩ : ∃ Y, Y = lo / K2 := ⟨_, rfl⟩
  obtain ⟨T, eT⟩ : ∃ Y, Y = lo * K := ⟨_, rfl⟩
  have hUlt : H + l2 < Y := by
    have := Nat.mul_le_mul_right K (Nat.succ_le_of_lt hh)
    rw [Nat.succ_mul, ← eY, ← eH] at this
    rw [← el2] at hl2
    omega
  obtain ⟨hs1, hs2⟩ := Num.shifted (a := N) (y := y) hKp
  rw [← eY] at hs1 hs2 hHY hY1 hY2
  rw [← eH, ← el2, ← eT, ← hN] at hUD
  rw [← eH, ← el2] at hor
  have hNy : N / y < 18446744073709551616 := Num.quot_lt hh hl hN
  obtain ⟨D, eD⟩ : ∃ D, D = T % 18446744073709551616 := ⟨_, rfl⟩
  rw [← eD] at hUD
  have hDlt : D < 18446744073709551616 := by rw [eD]; exact Nat.mod_lt _ (by omega)
  have hY64 : Y < 18446744073709551616 := hY2
  obtain ⟨hb1', hb0, hyy⟩ := Num.halves Y hY64
  obtain ⟨hbd1, hbd0, _⟩ := Num.halves D hDlt
  have hN2 := Num.join_halves hUD
  have hb1 : 2147483648 ≤ Y / 4294967296 := by clear hN2 hUD hor hN hs1 hs2 hNy; omega
  have hYp : 0 < Y := Nat.lt_of_le_of_lt (Nat.zero_le _) hUlt
  have hU64 : H + l2 < 18446744073709551616 := Nat.lt_trans hUlt hY64
  obtain ⟨td1, td2⟩ := Num.two_digits hYp hN2
  rw [hs1] at td1
  rw [hs2] at td2
  have hRlt := Nat.mod_lt ((H + l2) * 4294967296 + D / 4294967296) hYp
  have hR2lt := Nat.mod_lt (((H + l2) * 4294967296 + D / 4294967296) % Y * 4294967296 + D % 4294967296) hYp
  have hdm := Nat.div_add_mod' ((H + l2) * 4294967296 + D / 4294967296) Y
  have hdm2 := Nat.div_add_mod' (((H + l2) * 4294967296 + D / 4294967296) % Y * 4294967296 + D % 4294967296) Y
  have hS := hU64
  refine div64_core hi lo y (64 - Lib.bitLen y) (Lib.bitLen y) K K2 Y (Y / 4294967296) (Y % 4294967296) H l2 (H + l2) D (D / 4294967296) (D % 4294967296) ((H + l2) / (Y / 4294967296)) ((H + l2) % (Y / 4294967296)) (N / y) (N % y) (((H + l2) * 4294967296 + D / 4294967296) / Y)
    hh h0 hl hy hb1 hb1' hb0 hbd1 hbd0 (wone _ L2) (by omega) e3 (by rw [Half.mulN, ← eY]; exact Half.wrapN _ hY64) (Half.divN _) (Half.maskN _ hY64) (by rw [Half.mulN, ← eH]; exact Half.wrapN _ (by omega))
    (wtwo _ L2) (by omega) e10 (by rw [el2]; rfl) (by rw [u64_or_nat H l2 (by omega) (by omega), hor]) (by rw [Half.mulN, ← eT, eD]; exact Half.wrapM T) (Half.divN _) (Half.maskN _ hDlt)
    (wdiv _ _ hS) (wmod _ _ hS) (Num.dstart (by omega) hb1 hb1' hb0 hbd1) (by rw [hyy]; exact hUlt) (by rw [hyy]; rfl)
    ((H + l2) * 4294967296 % 18446744073709551616) (((H + l2) * 4294967296 + D / 4294967296) % 18446744073709551616) ((((H + l2) * 4294967296 + D / 4294967296) / Y * Y) % 18446744073709551616) (((H + l2) * 4294967296 + D / 4294967296) % Y)
    (((H + l2) * 4294967296 + D / 4294967296) % Y / (Y / 4294967296)) (((H + l2) * 4294967296 + D / 4294967296) % Y / (Y / 4294967296) * (Y / 4294967296)) (((H + l2) * 4294967296 + D / 4294967296) % Y % (Y / 4294967296))
    ((((H + l2) * 4294967296 + D / 4294967296) % Y * 4294967296 + D % 4294967296) / Y)
    (((H + l2) * 4294967296 + D / 4294967296) / Y * 4294967296 % 18446744073709551616) (((H + l2) * 4294967296 + D / 4294967296) % Y * 4294967296 % 18446744073709551616) ((((H + l2) * 4294967296 + D / 4294967296) % Y * 4294967296 + D % 4294967296) % 18446744073709551616)
    ((((H + l2) * 4294967296 + D / 4294967296) % Y * 4294967296 + D % 4294967296) / Y * Y % 18446744073709551616)
    (wshl _) (wadd _ _) (wmul _ _) (wsub (Nat.div_add_mod' _ _).symm (Nat.lt_trans hRlt hY64) rfl) (wdiv _ _ (Nat.lt_trans hRlt hY64)) (wback _ _ (Nat.lt_trans hRlt hY64)) (wrest _ _ (Nat.lt_trans hRlt hY64))
    (Num.dstart (by rw [hyy]; exact hRlt) hb1 hb1' hb0 hbd0) (by rw [hyy]; exact hRlt) (by rw [hyy]; rfl) (wshl _) (by rw [td1]; exact wsum _ _ (by rw [← td1]; exact hNy)) (wshl _) (wadd _ _) (wmul _ _) ?_ w
  rw [wsub (Nat.div_add_mod' _ Y).symm (Nat.lt_trans hR2lt hY64) rfl, ← td2, ← Int.natCast_ediv, Nat.mul_div_cancel _ hKp]
end Go.Proofs.YthbdeaglncoanaaGreatDoor

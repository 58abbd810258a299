/- Merged texts of these proofs: Gcd, Dec, Text, Frac, Make, At. -/
import Derived.Test.YtapfmbnppeonkaaGreatDoorMgA
import Derived.Deep.QuietTactic
import Derived.BigQuiet
import Derived.RegionTactic
import Derived.Test.YtapfmbnppeonkaaGreatDoorLeaf
import Derived.Test.YtapfmbnppeonkaaGreatDoorTabTwo
namespace Go.Proofs.YtapfmbnppeonkaaGreatDoor
open Go.RowKit
set_option linter.unusedVariables false
set_option linter.unusedSimpArgs false

theorem gcd_step {x y : Nat} : Nat.gcd y (x % y) = Nat.gcd x y := by
  rw [Nat.gcd_comm y, ← Nat.gcd_rec, Nat.gcd_comm]
theorem tmod_nat (x y : Nat) : Int.tmod (x : Int) (y : Int) = ((x % y : Nat) : Int) := by
  rw [Int.tmod_eq_emod_of_nonneg (by omega)]; rfl
theorem tdiv_nat (x y : Nat) : Int.tdiv (x : Int) (y : Int) = ((x / y : Nat) : Int) := by
  rw [Int.tdiv_eq_ediv_of_nonneg (by omega)]; rfl

/-- What the gcd's loop keeps. -/
def GInv (a b x y : Nat) : Prop := Nat.gcd x y = Nat.gcd a b ∧ x ≤ max a b ∧ y ≤ max a b
theorem ginv_step {a b x y : Nat} (h : GInv a b x y) (hy : y ≠ 0) : GInv a b y (x % y) ∧ x % y < y :=
  ⟨⟨gcd_step.trans h.1, h.2.2, by have := Nat.mod_lt x (by omega : 0 < y); have := h.2.2; omega⟩, Nat.mod_lt x (by omega)⟩
theorem ginv_end {a b x : Nat} (h : GInv a b x 0) : x = Nat.gcd a b := by rw [← h.1, Nat.gcd_zero_right]

set_option maxHeartbeats 1000000 in
theorem tgcd (a b g : Nat) (ha : a < 9223372036854775808) (hb : b < 9223372036854775808) (hg : g = Nat.gcd a b) (w : World) :
    Calls Tryz.prog 29 #[.int .i64 (a : Int), .int .i64 (b : Int)] w fun e w' => e = .returned (.int .i64 (g : Int)) ∧ Below w.heap.size w w' := by
  have HA := Lib.hid ha
  have HB := Lib.hid hb
  have HG := Lib.hid hg
  clear ha hb hg
  go_enter Tryz.func29, Tryz.ntmps29
  go_wp2_with fail
  go_loopw [0, 1] (fun u v wr => ∃ x y : Nat, Hid (GInv a b x y) ∧ u = .int .i64 x ∧ v = .int .i64 y ∧ Hid (Below w.heap.size w wr)) (fun _ v _ => (intOf v).toNat)
  case atStart => exact ⟨a, b, ⟨rfl, by omega, by omega⟩, rfl, rfl, Below.refl _ _⟩
  case round =>
    obtain ⟨x, y, HI, rfl, rfl, HW⟩ := hrel
    by_cases hy : y = 0
    · subst hy
      have e := ginv_end HI.out
      rw [← HG.out] at e
      subst e
      go_wp2_with fail
      go_ret
      exact ⟨rfl, HW.out⟩
    · have t1 : ((y : Int) == 0) = false := by simp <;> omega
      have t2 : ¬ (y : Int) = 0 := by omega
      obtain ⟨h1, h2⟩ := ginv_step HI.out hy
      have e1 := tmod_nat x y
      obtain ⟨r, hr⟩ : ∃ z, z = x % y := ⟨_, rfl⟩
      rw [← hr] at h1 h2 e1
      have b1 : r < 9223372036854775808 := by have := HA.out; have := HB.out; have := h1.2.2; omega
      have e2 : IntKind.i64.wrap (r : Int) = (r : Int) := by rw [IntKind.wrap_i64]; omega
      have H1 := Lib.hid h1
      have HMS : Hid ((intOf (Value.int .i64 (r : Int))).toNat < (intOf (Value.int .i64 (y : Int))).toNat) := by show _ < _; simp [intOf]; omega
      clear hr h1 h2 hy b1
      go_wp2_with fail
      go_quiet (fail)
      go_wp2_with fail
      go_roundw
      case rel => exact ⟨y, r, H1, rfl, rfl, below_drewN HW.out _⟩
      case measure => exact HMS.out

set_option maxHeartbeats 1000000 in
theorem ugcd (a b g : Nat) (ha : a < 18446744073709551616) (hb : b < 18446744073709551616) (hg : g = Nat.gcd a b) (w : World) :
    Calls Tryz.prog 57 #[.int .u64 (a : Int), .int .u64 (b : Int)] w fun e w' => e = .returned (.int .u64 (g : Int)) ∧ Below w.heap.size w w' := by
  have HA := Lib.hid ha
  have HB := Lib.hid hb
  have HG := Lib.hid hg
  clear ha hb hg
  go_enter Tryz.func57, Tryz.ntmps57
  go_wp2_with fail
  go_loopw [0, 1] (fun u v wr => ∃ x y : Nat, Hid (GInv a b x y) ∧ u = .int .u64 x ∧ v = .int .u64 y ∧ Hid (Below w.heap.size w wr)) (fun _ v _ => (intOf v).toNat)
  case atStart => exact ⟨a, b, ⟨rfl, by omega, by omega⟩, rfl, rfl, Below.refl _ _⟩
  case round =>
    obtain ⟨x, y, HI, rfl, rfl, HW⟩ := hrel
    by_cases hy : y = 0
    · subst hy
      have e := ginv_end HI.out
      rw [← HG.out] at e
      subst e
      go_wp2_with fail
      go_ret
      exact ⟨rfl, HW.out⟩
    · have t1 : ((y : Int) == 0) = false := by simp <;> omega
      have t2 : ¬ (y : Int) = 0 := by omega
      obtain ⟨h1, h2⟩ := ginv_step HI.out hy
      have e1 := tmod_nat x y
      have e3 : (x : Int) % (y : Int) = ((x % y : Nat) : Int) := rfl
      obtain ⟨r, hr⟩ : ∃ z, z = x % y := ⟨_, rfl⟩
      rw [← hr] at h1 h2 e1 e3
      have b1 : r < 18446744073709551616 := by have := HA.out; have := HB.out; have := h1.2.2; omega
      have e2 : IntKind.u64.wrap (r : Int) = (r : Int) := by rw [IntKind.wrap_u64]; omega
      have H1 := Lib.hid h1
      have HMS : Hid ((intOf (Value.int .u64 (r : Int))).toNat < (intOf (Value.int .u64 (y : Int))).toNat) := by show _ < _; simp [intOf]; omega
      clear hr h1 h2 hy b1
      go_wp2_with fail
      go_quiet (fail)
      go_wp2_with fail
      go_roundw
      case rel => exact ⟨y, r, H1, rfl, rfl, below_drewN HW.out _⟩
      case measure => exact HMS.out
end Go.Proofs.YtapfmbnppeonkaaGreatDoor

namespace Go.Proofs.YtapfmbnppeonkaaGreatDoor
open Go.RowKit
set_option linter.unusedVariables false
set_option linter.unusedSimpArgs false

/-- The text of one digit. -/
def dg (d : Nat) : ByteArray := Utf8.encode (((48 + d : Nat) : Int))
theorem dg_size (d : Nat) (hd : d < 10) : ((dg d).size : Int) ≤ 8388608 := by
  have : d = 0 ∨ d = 1 ∨ d = 2 ∨ d = 3 ∨ d = 4 ∨ d = 5 ∨ d = 6 ∨ d = 7 ∨ d = 8 ∨ d = 9 := by omega
  rcases this with rfl | rfl | rfl | rfl | rfl | rfl | rfl | rfl | rfl | rfl <;> decide
theorem rdec_one (d : Nat) (hd : d < 10) (w : World) : Calls Tryz.prog 27 #[.int .i64 (d : Int)] w fun e w' => e = .returned (.string (dg d)) ∧ w = w' := by
  have e1 : Int.tmod (d : Int) 10 = (d : Int) := (tmod_nat d 10).trans (by omega)
  have e1' : (d : Int) % 10 = (d : Int) := by omega
  obtain ⟨c, hc⟩ : ∃ c, c = 48 + d := ⟨_, rfl⟩
  have e2 : IntKind.i64.wrap (48 + (d : Int)) = (c : Int) := by rw [IntKind.wrap_i64]; omega
  have e3 : IntKind.i32.wrap (c : Int) = (c : Int) := by unfold IntKind.wrap; simp [IntKind.bits, IntKind.signed]; omega
  have t1 : decide ((d : Int) < 0) = false := by simp
  have t2 : decide ((10 : Int) ≤ (d : Int)) = false := decide_eq_false (by omega)
  unfold dg
  rw [← hc]
  clear hd hc
  go_enter Tryz.func27, Tryz.ntmps27
  go_wp2_with fail
  go_ret
  exact ⟨rfl, rfl⟩
theorem rdec_two (a b : Nat) (ha : 0 < a) (ha' : a < 10) (hb : b < 10) (w : World) : Calls Tryz.prog 27 #[.int .i64 ((10 * a + b : Nat) : Int)] w fun e w' => e = .returned (.string (dg a ++ dg b)) ∧ w = w' := by
  have S := Lib.hid fun w => rdec_one a ha' w
  obtain ⟨n, hn⟩ : ∃ n, n = 10 * a + b := ⟨_, rfl⟩
  rw [← hn]
  have e1 : Int.tmod (n : Int) 10 = (b : Int) := (tmod_nat n 10).trans (by omega)
  have e0 : Int.tdiv (n : Int) 10 = (a : Int) := (tdiv_nat n 10).trans (by omega)
  have e1' : (n : Int) % 10 = (b : Int) := by omega
  have e0' : (n : Int) / 10 = (a : Int) := by omega
  obtain ⟨c, hc⟩ : ∃ c, c = 48 + b := ⟨_, rfl⟩
  have e2 : IntKind.i64.wrap (48 + (b : Int)) = (c : Int) := by rw [IntKind.wrap_i64]; omega
  have e3 : IntKind.i32.wrap (c : Int) = (c : Int) := by unfold IntKind.wrap; simp [IntKind.bits, IntKind.signed]; omega
  have t1 : decide ((n : Int) < 0) = false := by simp
  have t2 : decide ((10 : Int) ≤ (n : Int)) = true := decide_eq_true (by omega)
  have e5 : dg b = Utf8.encode (c : Int) := by unfold dg; rw [hc]
  have z1 := dg_size a ha'
  have z2 := dg_size b hb
  rw [e5] at z2 ⊢
  generalize dg a = da at *
  generalize hdc : Utf8.encode (c : Int) = dc at *
  have e4 : IntKind.i64.wrap (a : Int) = (a : Int) := by rw [IntKind.wrap_i64]; omega
  clear ha ha' hb hc hn e5
  go_enter Tryz.func27, Tryz.ntmps27
  go_wp2_with (first | (go_at_call 27; (with_reducible refine (S.out _).mono ?_); rintro e w' ⟨rfl, rfl⟩))
  go_ret
  exact ⟨rfl, rfl⟩
end Go.Proofs.YtapfmbnppeonkaaGreatDoor

namespace Go.Proofs.YtapfmbnppeonkaaGreatDoor
open Go.RowKit
set_option linter.unusedVariables false
set_option linter.unusedSimpArgs false

/-- The text of the first knots. -/
def tt (tx : Int → ByteArray) (X Y : Nat → Int) : Nat → ByteArray
  | 0 => ⟨#[]⟩
  | i + 1 => (((if 0 < i then tt tx X Y i ++ ⟨#[32]⟩ else tt tx X Y i) ++ tx (X i)) ++ ⟨#[58]⟩) ++ tx (Y i)
theorem tt_size {tx : Int → ByteArray} {X Y : Nat → Int} {n : Nat} (h : ∀ k, k < n → (tx (X k)).size ≤ 30 ∧ (tx (Y k)).size ≤ 30) : ∀ i, i ≤ n → (tt tx X Y i).size ≤ 62 * i := by
  intro i
  induction i with
  | zero => intro _; exact Nat.le_refl _
  | succ i ih =>
    intro hi
    have := ih (by omega)
    have h1 := h i (by omega)
    simp only [tt]
    split <;> simp only [ByteArray.size_append] <;> (show _ ≤ _; simp only [show (⟨#[32]⟩ : ByteArray).size = 1 from rfl, show (⟨#[58]⟩ : ByteArray).size = 1 from rfl]; omega)

set_option maxHeartbeats 2000000 in
theorem rtext (b off n c : Nat) (X Y : Nat → Int) (tx : Int → ByteArray) (w : World) (h2 : n ≤ 100) (ht : TabAt w b off n X Y)
    (hX : ∀ k, k < n → ∀ w, Calls Tryz.prog 27 #[.int .i64 (X k)] w fun e w' => e = .returned (.string (tx (X k))) ∧ w = w')
    (hY : ∀ k, k < n → ∀ w, Calls Tryz.prog 27 #[.int .i64 (Y k)] w fun e w' => e = .returned (.string (tx (Y k))) ∧ w = w')
    (hs : ∀ k, k < n → (tx (X k)).size ≤ 30 ∧ (tx (Y k)).size ≤ 30) :
    Calls Tryz.prog 11 #[.slice (some ⟨b, off, none⟩) n c] w fun e w' => e = .returned (.string (tt tx X Y n)) ∧ Below w.heap.size w w' := by
  have HT := Lib.hid ht
  have H2 := Lib.hid h2
  have HX := Lib.hid hX
  have HY := Lib.hid hY
  have HS := Lib.hid hs
  have hb := ht.1
  clear ht h2 hX hY hs
  go_enter Tryz.func11, Tryz.ntmps11
  go_wp2_with fail
  go_loopw [3, 4] (fun u v wr => ∃ i : Nat, Hid (i ≤ n) ∧ u = .string (tt tx X Y i) ∧ v = .int .i64 i ∧ Hid (Below w.heap.size w wr)) (fun _ v _ => n - (intOf v).toNat)
  case atStart => exact ⟨0, Nat.zero_le _, rfl, rfl, Below.refl _ _⟩
  case round =>
    obtain ⟨i, Hi, rfl, rfl, HW⟩ := hrel
    by_cases hlt : i < n
    · have T0 : decide ((i : Int) < (n : Int)) = true := by simp <;> omega
      have T0' : decide (i < n) = true := decide_eq_true hlt
      obtain ⟨i', hi'⟩ : ∃ z, z = i + 1 := ⟨_, rfl⟩
      have x0 : IntKind.i64.wrap ((i : Int) + 1) = (i' : Int) := by have := H2.out; rw [IntKind.wrap_i64]; omega
      have HI' : Hid (i' ≤ n) := by show i' ≤ n; omega
      have HMS : Hid (n - (intOf (Value.int .i64 (i' : Int))).toNat < n - (intOf (Value.int .i64 (i : Int))).toNat) := by show _ < _; simp [intOf]; omega
      have HTr := HT.out.below HW.out hb
      have hx1 := (HTr.2 i hlt).1
      have hy1 := (HTr.2 i hlt).2
      have k0 : (0 : Int) ≤ (i : Int) := by omega
      have k1 : (i : Int) < (n : Int) := by omega
      have CX := Lib.hid (HX.out i hlt)
      have CY := Lib.hid (HY.out i hlt)
      have hsz := tt_size HS.out i (by omega)
      have hs1 := HS.out i hlt
      have h2 := H2.out
      have HE : Hid (tt tx X Y i' = (((if 0 < i then tt tx X Y i ++ ⟨#[32]⟩ else tt tx X Y i) ++ tx (X i)) ++ ⟨#[58]⟩) ++ tx (Y i)) := by rw [hi']; exact rfl
      obtain ⟨s, hs⟩ : ∃ z, z = tt tx X Y i := ⟨_, rfl⟩
      obtain ⟨a, ha⟩ : ∃ z, z = tx (X i) := ⟨_, rfl⟩
      obtain ⟨d, hd⟩ : ∃ z, z = tx (Y i) := ⟨_, rfl⟩
      rw [← hs, ← ha, ← hd] at HE
      rw [← ha] at CX
      rw [← hd] at CY
      rw [← hs]
      rw [← ha, ← hd] at hs1
      rw [← hs] at hsz
      have z1 : (s.size : Int) ≤ 8388608 := by omega
      have z2 : (a.size : Int) ≤ 8388608 := by omega
      have z3 : (d.size : Int) ≤ 8388608 := by omega
      by_cases h0 : 0 < i
      · have t1 : decide (0 < i) = true := decide_eq_true h0
        rw [if_pos h0] at HE
        have z0 : ((s ++ ⟨#[32]⟩ : ByteArray).size : Int) ≤ 8388608 := by rw [ByteArray.size_append, show (⟨#[32]⟩ : ByteArray).size = 1 from rfl]; omega
        generalize hr : (s ++ ⟨#[32]⟩ : ByteArray) = r at *
        have z4 : ((r ++ a : ByteArray).size : Int) ≤ 8388608 := by rw [ByteArray.size_append, ← hr, ByteArray.size_append, show (⟨#[32]⟩ : ByteArray).size = 1 from rfl]; omega
        have z5 : (((r ++ a) ++ ⟨#[58]⟩ : ByteArray).size : Int) ≤ 8388608 := by rw [ByteArray.size_append, ByteArray.size_append, ← hr, ByteArray.size_append, show (⟨#[32]⟩ : ByteArray).size = 1 from rfl, show (⟨#[58]⟩ : ByteArray).size = 1 from rfl]; omega
        clear hi' h0 hs ha hd hsz hs1 HTr h2 hlt
        go_wp2_with fail
        go_quiet ((go_at_call 27; first | (with_reducible exact quiet_left (CX.out _)) | (with_reducible exact quiet_left (CY.out _))))
        go_wp2_with fail
        go_roundw
        case rel => exact ⟨i', HI', by rw [HE.out], rfl, below_drewN HW.out _⟩
        case measure => exact HMS.out
      · have t1 : decide (0 < i) = false := decide_eq_false h0
        rw [if_neg h0] at HE
        have z4 : ((s ++ a : ByteArray).size : Int) ≤ 8388608 := by rw [ByteArray.size_append]; omega
        have z5 : (((s ++ a) ++ ⟨#[58]⟩ : ByteArray).size : Int) ≤ 8388608 := by rw [ByteArray.size_append, ByteArray.size_append, show (⟨#[58]⟩ : ByteArray).size = 1 from rfl]; omega
        clear hi' h0 hs ha hd hsz hs1 HTr h2 hlt
        go_wp2_with fail
        go_quiet ((go_at_call 27; first | (with_reducible exact quiet_left (CX.out _)) | (with_reducible exact quiet_left (CY.out _))))
        go_wp2_with fail
        go_roundw
        case rel => exact ⟨i', HI', by rw [HE.out], rfl, below_drewN HW.out _⟩
        case measure => exact HMS.out
    · have e : i = n := by have := Hi.out; omega
      subst e
      have T0' : decide (i < i) = false := decide_eq_false (Nat.lt_irrefl i)
      clear hlt
      go_wp2_with fail
      go_ret
      exact ⟨rfl, HW.out⟩
end Go.Proofs.YtapfmbnppeonkaaGreatDoor

namespace Go.Proofs.YtapfmbnppeonkaaGreatDoor
open Go.RowKit
set_option linter.unusedVariables false
set_option linter.unusedSimpArgs false

/-- The denominator of the rest, where there is one. -/
def Val.dn (X : Nat → Int) : Nat → Int → Nat
  | 0, _ => 1
  | m + 1, x => if X (m + 1) ≤ x then 1 else if X m ≤ x then (X (m + 1) - X m).toNat else Val.dn X m x
theorem Val.dn_mid {X Y : Nat → Int} {m k : Nat} {x : Int} (ha : Val.Asc X Y m) (hk : k < m) (h1 : X k ≤ x) (h2 : x < X (k + 1)) : Val.dn X m x = (X (k + 1) - X k).toNat := by
  induction m with
  | zero => omega
  | succ m ih =>
    have h3 := (ha.mono (Nat.le_refl _) (by omega : k + 1 ≤ m + 1)).1
    have e1 : ¬ X (m + 1) ≤ x := by omega
    simp only [Val.dn, if_neg e1]
    by_cases h4 : k = m
    · subst h4; simp only [if_pos h1]
    · have h5 := (ha.mono (by omega : m ≤ m + 1) (by omega : k + 1 ≤ m)).1
      have e2 : ¬ X m ≤ x := by omega
      simp only [if_neg e2]
      exact ih (fun k hk => ha k (by omega)) (by omega)
def Val.DenOK (X Y : Nat → Int) (m : Nat) (x : Int) (d : Nat) : Prop := 0 < d ∧ d ≤ 2251799813685248 ∧ 0 ≤ Val.rst X Y m x ∧ Val.rst X Y m x < d ∧ (Val.rst X Y m x ≠ 0 → d = Val.dn X m x)
theorem Val.den_one {X Y : Nat → Int} {m : Nat} {x : Int} (h : Val.rst X Y m x = 0) : Val.DenOK X Y m x 1 := by
  unfold Val.DenOK; rw [h]; exact ⟨by omega, by omega, by omega, by omega, fun h => absurd rfl h⟩
theorem Val.den_mid {X Y : Nat → Int} {m k D : Nat} {x : Int} (ha : Val.Asc X Y m) (hk : k < m) (h1 : X k ≤ x) (h2 : x < X (k + 1)) (hD : X (k + 1) - X k = (D : Int)) (h3 : 0 < D) (h4 : D ≤ 2251799813685248) : Val.DenOK X Y m x D := by
  have e : Val.rst X Y m x = (Y (k + 1) - Y k) * (x - X k) % (D : Int) := by rw [(Val.val_mid ha hk h1 h2).2]; unfold Val.rs; rw [hD]
  unfold Val.DenOK
  rw [e, Val.dn_mid ha hk h1 h2, hD]
  exact ⟨h3, h4, Int.emod_nonneg _ (by omega), Int.emod_lt_of_pos _ (by omega), fun _ => rfl⟩

/-- What the search's piece gives is the table's value. -/
theorem tpiece_den (b off m c : Nat) (X Y : Nat → Int) (x : Int) (hv : TabOK (m + 1) X Y) :
    ∃ d : Nat, Val.DenOK X Y m x d ∧ ∀ w, TabAt w b off (m + 1) X Y → Calls Tryz.prog 28 #[.slice (some ⟨b, off, none⟩) (m + 1 : Nat) c, .int .i64 x] w fun e w' => e = .returned (.tuple #[.int .i64 (Val.val X Y m x), .int .i64 (Val.rst X Y m x), .int .i64 (d : Int)]) ∧ Below w.heap.size w w' := by
  have ha := asc_of hv
  have h1 := hv.1
  have h2 := hv.2.1
  have found : ∀ k, k ≤ m → X k = x → ∀ w, TabAt w b off (m + 1) X Y → Calls Tryz.prog 28 #[.slice (some ⟨b, off, none⟩) (m + 1 : Nat) c, .int .i64 x] w fun e w' => e = .returned (.tuple #[.int .i64 (Val.val X Y m x), .int .i64 (Val.rst X Y m x), .int .i64 ((1 : Nat) : Int)]) ∧ Below w.heap.size w w' := fun k hk hx w ht => by
    subst hx
    rw [(Val.val_knot ha hk).1, (Val.val_knot ha hk).2]
    exact piece_found b off (m + 1) c k X Y (X k) w h1 h2 ht ⟨by omega, fun j hj => ha.lt hk hj, fun j hj hj' => (ha.mono (by omega) hj).1⟩ (by omega) (.inr rfl)
  rcases Val.where_ x ha with hx | hx | ⟨k, hk, hx1, hx2⟩
  · refine ⟨1, Val.den_one (Val.val_first ha hx).2, fun w ht => ?_⟩
    rw [(Val.val_first ha hx).1, (Val.val_first ha hx).2]
    exact piece_found b off (m + 1) c 0 X Y x w h1 h2 ht ⟨by omega, fun j hj => absurd hj (by omega), fun j hj hj' => by have := (ha.mono (by omega : j ≤ m) (Nat.zero_le j)).1; omega⟩ (by omega) (.inl rfl)
  · by_cases he : X m = x
    · exact ⟨1, Val.den_one (he ▸ (Val.val_knot ha (Nat.le_refl m)).2), found m (Nat.le_refl _) he⟩
    · refine ⟨1, Val.den_one (Val.val_last hx).2, fun w ht => ?_⟩
      rw [(Val.val_last hx).1, (Val.val_last hx).2]
      exact piece_end b off (m + 1) c X Y x w h1 h2 ht ⟨Nat.le_refl _, fun j hj => by have := (ha.mono (Nat.le_refl m) (by omega : j ≤ m)).1; omega, fun j hj hj' => absurd hj' (by omega)⟩
  · by_cases he : X k = x
    · exact ⟨1, Val.den_one (he ▸ (Val.val_knot ha (by omega : k ≤ m)).2), found k (by omega) he⟩
    · have bk := in_of hv (by omega : k < m + 1)
      have bk1 := in_of hv (by omega : k + 1 < m + 1)
      have hk1 := ha k hk
      obtain ⟨U, hU⟩ : ∃ U : Nat, Y (k + 1) - Y k = (U : Int) := ⟨(Y (k + 1) - Y k).toNat, by omega⟩
      obtain ⟨A, hA⟩ : ∃ U : Nat, x - X k = (U : Int) := ⟨(x - X k).toNat, by omega⟩
      obtain ⟨D, hD⟩ : ∃ U : Nat, X (k + 1) - X k = (U : Int) := ⟨(X (k + 1) - X k).toNat, by omega⟩
      refine ⟨D, Val.den_mid ha hk hx1 hx2 hD (by omega) (by omega), fun w ht => ?_⟩
      have e1 : Val.val X Y m x = Y k + ((U * A / D : Nat) : Int) := by
        rw [(Val.val_mid ha hk hx1 hx2).1]; unfold Val.fl; rw [hU, hA, hD]; rfl
      have e2 : Val.rst X Y m x = ((U * A % D : Nat) : Int) := by
        rw [(Val.val_mid ha hk hx1 hx2).2]; unfold Val.rs; rw [hU, hA, hD]; rfl
      have hq : U * A / D ≤ U := by
        apply Nat.div_le_of_le_mul
        rw [Nat.mul_comm D U]
        exact Nat.mul_le_mul_left U (by omega)
      rw [e1, e2]
      exact piece_mid b off (m + 1) c k U A D (U * A / D) (U * A % D) X Y x w h1 h2 ht
        ⟨by omega, fun j hj => by have := (ha.mono (by omega : k ≤ m) (by omega : j ≤ k)).1; omega, fun j hj hj' => by have := (ha.mono (by omega : j ≤ m) (by omega : k + 1 ≤ j)).1; omega⟩ (by omega) (by omega)
        (by rw [hU]; exact wrap_id (by omega) (by omega)) (by rw [hA]; exact wrap_id (by omega) (by omega)) (by rw [hD]; exact wrap_id (by omega) (by omega)) (by omega) (by omega) (by omega) rfl rfl
        (by have hb : (0 : Int) ≤ ((U * A / D : Nat) : Int) ∧ ((U * A / D : Nat) : Int) ≤ (U : Int) := ⟨Int.natCast_nonneg _, Int.ofNat_le.2 hq⟩
            generalize ((U * A / D : Nat) : Int) = q at hb ⊢
            exact wrap_id (by omega) (by omega))

end Go.Proofs.YtapfmbnppeonkaaGreatDoor

namespace Go.Proofs.YtapfmbnppeonkaaGreatDoor
open Go.RowKit
set_option linter.unusedVariables false
set_option linter.unusedSimpArgs false

theorem qsize (n : Int) (h0 : -9223372036854775808 ≤ n) (h1 : n ≤ 9223372036854775807) (w : World) : Calls Tryz.prog 56 #[.int .i64 n] w fun e w' => e = .returned (.int .u64 n.natAbs) ∧ w = w' := by
  go_enter Tryz.func56, Tryz.ntmps56
  go_wp2
  all_goals (go_ret; refine ⟨ret_int ?_, rfl⟩; (try simp only [IntKind.wrap_u64]); omega)

/-- What Make answers for a denominator greater than 0. -/
def MakeIs (num : Int) (d : Nat) (a b e : Int) : Prop :=
  ((1073741824 < num.natAbs / Nat.gcd num.natAbs d ∨ 1073741824 < d / Nat.gcd num.natAbs d) ∧ a = 0 ∧ b = 0 ∧ e = 5) ∨
  (num.natAbs / Nat.gcd num.natAbs d ≤ 1073741824 ∧ d / Nat.gcd num.natAbs d ≤ 1073741824 ∧ a = (if num < 0 then -((num.natAbs / Nat.gcd num.natAbs d : Nat) : Int) else ((num.natAbs / Nat.gcd num.natAbs d : Nat) : Int)) ∧ b = ((d / Nat.gcd num.natAbs d : Nat) : Int) ∧ e = 0)
set_option maxHeartbeats 2000000 in
theorem tmake (num : Int) (d : Nat) (a b e : Int) (h0 : -9223372036854775808 < num) (h1 : num ≤ 9223372036854775807) (hd : 0 < d) (hd1 : d < 9223372036854775808) (hm : MakeIs num d a b e) (w : World) :
    Calls Tryz.prog 30 #[.int .i64 num, .int .i64 (d : Int)] w fun e' w' => e' = .returned (.tuple #[.agg #[.int .i64 a, .int .i64 b], .int .i64 e]) ∧ Below w.heap.size w w' := by
  have S1 := fun w => qsize num (by omega) h1 w
  have S2 := fun w => qsize (d : Int) (by omega) (by omega) w
  unfold MakeIs at hm
  obtain ⟨N, hN⟩ : ∃ N, N = num.natAbs := ⟨_, rfl⟩
  rw [← hN] at S1 hm
  rw [show (d : Int).natAbs = d from Int.natAbs_natCast d] at S2
  obtain ⟨g, hg⟩ : ∃ g, g = Nat.gcd N d := ⟨_, rfl⟩
  have hg0 : 0 < g := by rw [hg]; exact Nat.gcd_pos_of_pos_right _ hd
  have S3 := fun w => ugcd N d g (by omega) (by omega) hg w
  rw [← hg] at hm
  have q1 := tdiv_nat N g
  have q2 : (N : Int) / (g : Int) = ((N / g : Nat) : Int) := rfl
  have q3 := tdiv_nat d g
  have q4 : (d : Int) / (g : Int) = ((d / g : Nat) : Int) := rfl
  have b1 : N / g ≤ N := Nat.div_le_self _ _
  have b2 : d / g ≤ d := Nat.div_le_self _ _
  obtain ⟨n, hn⟩ : ∃ n, n = N / g := ⟨_, rfl⟩
  obtain ⟨D, hD⟩ : ∃ n, n = d / g := ⟨_, rfl⟩
  rw [← hn] at q1 q2 b1 hm
  rw [← hD] at q3 q4 b2 hm
  have t1 : ((g : Int) == 0) = false := by simp <;> omega
  have t2 : ¬ (g : Int) = 0 := by omega
  have t3 : ((d : Int) == 0) = false := by simp <;> omega
  have t4 : ¬ (d : Int) = 0 := by omega
  have e1 : IntKind.u64.wrap (n : Int) = (n : Int) := by rw [IntKind.wrap_u64]; omega
  have e2 : IntKind.u64.wrap (D : Int) = (D : Int) := by rw [IntKind.wrap_u64]; omega
  have S1 := Lib.hid S1
  have S2 := Lib.hid S2
  have S3 := Lib.hid S3
  have t5 : decide ((d : Int) < 0) = false := by simp
  rcases hm with ⟨hbig, rfl, rfl, rfl⟩ | ⟨hn1, hD1, ha, hb', rfl⟩
  · by_cases hn1 : 1073741824 < n
    · have T := decide_eq_true (show (1073741824 : Int) < (n : Int) by omega)
      clear h0 h1 hd hd1 hN hg hg0 b1 b2 hn hD hbig hn1
      go_enter Tryz.func30, Tryz.ntmps30
      go_wp2_with (first | (go_at_call 56; (with_reducible refine (S1.out _).mono ?_); rintro e w' ⟨rfl, rfl⟩) | (go_at_call 56; (with_reducible refine (S2.out _).mono ?_); rintro e w' ⟨rfl, rfl⟩) | (go_at_call 57; (with_reducible refine (S3.out _).mono ?_); rintro e w1 ⟨rfl, hb1⟩; obtain ⟨hc1, hf1⟩ := bcell hb1; have hz1 := hb1.size; (try simp at hz1); (try simp only [heap_drew, World.heap_drewN] at hz1); (try simp only [heap_drew, World.heap_drewN] at hc1); (try simp only [heap_drew, World.heap_drewN] at hf1); (try have hs1 := Nat.lt_of_succ_le hz1); (try have hs2 := Nat.lt_of_succ_lt hs1); (try have y0 : w.heap.size < w1.heap.size := by omega); (try have y1 : w.heap.size + 1 < w1.heap.size := by omega); (try have y2 : w.heap.size + 2 < w1.heap.size := by omega)))
      go_quiet (fail)
      go_wp2_with fail
      refine bodyPost_ret (v := .tuple #[.agg #[.int .i64 0, .int .i64 0], .int .i64 5]) (by simp [results, Tryz.results30, go_sem, *]) rfl ⟨rfl, ?_⟩
      (repeat' (first | assumption | exact Below.refl _ _ | exact Below.size (by assumption) | (refine Below.setCell ?_ ?_ _) | (refine Below.alloc ?_ ?_ _) | (refine Below.drew ?_) | (refine below_drewN ?_ _) | (refine Below.trans ?_ (Below.mono ‹Below _ _ _› ?_)) | omega | (simp; done) | (simp; omega) | (simp at *; omega)))
    · have T := decide_eq_false (show ¬ (1073741824 : Int) < (n : Int) by omega)
      have T' := decide_eq_true (show (1073741824 : Int) < (D : Int) by omega)
      clear h0 h1 hd hd1 hN hg hg0 b1 b2 hn hD hbig hn1
      go_enter Tryz.func30, Tryz.ntmps30
      go_wp2_with (first | (go_at_call 56; (with_reducible refine (S1.out _).mono ?_); rintro e w' ⟨rfl, rfl⟩) | (go_at_call 56; (with_reducible refine (S2.out _).mono ?_); rintro e w' ⟨rfl, rfl⟩) | (go_at_call 57; (with_reducible refine (S3.out _).mono ?_); rintro e w1 ⟨rfl, hb1⟩; obtain ⟨hc1, hf1⟩ := bcell hb1; have hz1 := hb1.size; (try simp at hz1); (try simp only [heap_drew, World.heap_drewN] at hz1); (try simp only [heap_drew, World.heap_drewN] at hc1); (try simp only [heap_drew, World.heap_drewN] at hf1); (try have hs1 := Nat.lt_of_succ_le hz1); (try have hs2 := Nat.lt_of_succ_lt hs1); (try have y0 : w.heap.size < w1.heap.size := by omega); (try have y1 : w.heap.size + 1 < w1.heap.size := by omega); (try have y2 : w.heap.size + 2 < w1.heap.size := by omega)))
      go_quiet (fail)
      go_wp2_with fail
      refine bodyPost_ret (v := .tuple #[.agg #[.int .i64 0, .int .i64 0], .int .i64 5]) (by simp [results, Tryz.results30, go_sem, *]) rfl ⟨rfl, ?_⟩
      (repeat' (first | assumption | exact Below.refl _ _ | exact Below.size (by assumption) | (refine Below.setCell ?_ ?_ _) | (refine Below.alloc ?_ ?_ _) | (refine Below.drew ?_) | (refine below_drewN ?_ _) | (refine Below.trans ?_ (Below.mono ‹Below _ _ _› ?_)) | omega | (simp; done) | (simp; omega) | (simp at *; omega)))
  · have T := decide_eq_false (show ¬ (1073741824 : Int) < (n : Int) by omega)
    have T' := decide_eq_false (show ¬ (1073741824 : Int) < (D : Int) by omega)
    have e3 : IntKind.i64.wrap (n : Int) = (n : Int) := by rw [IntKind.wrap_i64]; omega
    have e4 : IntKind.i64.wrap (D : Int) = (D : Int) := by rw [IntKind.wrap_i64]; omega
    subst hb'
    by_cases hs : num < 0
    · rw [if_pos hs] at ha
      have e5 : IntKind.i64.wrap (-(n : Int)) = a := by rw [IntKind.wrap_i64]; omega
      have t6 := decide_eq_true hs
      clear h0 h1 hd hd1 hN hg hg0 b1 b2 hn hD hn1 hD1 hs ha
      go_enter Tryz.func30, Tryz.ntmps30
      go_wp2_with (first | (go_at_call 56; (with_reducible refine (S1.out _).mono ?_); rintro e w' ⟨rfl, rfl⟩) | (go_at_call 56; (with_reducible refine (S2.out _).mono ?_); rintro e w' ⟨rfl, rfl⟩) | (go_at_call 57; (with_reducible refine (S3.out _).mono ?_); rintro e w1 ⟨rfl, hb1⟩; obtain ⟨hc1, hf1⟩ := bcell hb1; have hz1 := hb1.size; (try simp at hz1); (try simp only [heap_drew, World.heap_drewN] at hz1); (try simp only [heap_drew, World.heap_drewN] at hc1); (try simp only [heap_drew, World.heap_drewN] at hf1); (try have hs1 := Nat.lt_of_succ_le hz1); (try have hs2 := Nat.lt_of_succ_lt hs1); (try have y0 : w.heap.size < w1.heap.size := by omega); (try have y1 : w.heap.size + 1 < w1.heap.size := by omega); (try have y2 : w.heap.size + 2 < w1.heap.size := by omega)))
      go_quiet (fail)
      have c0 : (w1.drewN nq).cell? ⟨w.heap.size, 0, none⟩ = some (.int .i64 0) := (hc1 _ _ (by simp)).trans (by simp)
      have c1 : (w1.drewN nq).cell? ⟨w.heap.size, 1, none⟩ = some (.int .i64 0) := (hc1 _ _ (by simp)).trans (by simp)
      have f0 : (w1.drewN nq).frozen? ⟨w.heap.size, 0, none⟩ = false := (hf1 _ _ (by simp)).trans (by simp)
      have f1 : (w1.drewN nq).frozen? ⟨w.heap.size, 1, none⟩ = false := (hf1 _ _ (by simp)).trans (by simp)
      have hbq : Below w.heap.size w (w1.drewN nq) := by (repeat' (first | assumption | exact Below.refl _ _ | exact Below.size (by assumption) | (refine Below.setCell ?_ ?_ _) | (refine Below.alloc ?_ ?_ _) | (refine Below.drew ?_) | (refine below_drewN ?_ _) | (refine Below.trans ?_ (Below.mono ‹Below _ _ _› ?_)) | omega | (simp; done) | (simp; omega) | (simp at *; omega)))
      have hsq : w.heap.size < (w1.drewN nq).heap.size := by simp <;> omega
      generalize w1.drewN nq = w2 at c0 c1 f0 f1 hbq hsq ⊢
      clear hc1 hf1 hb1
      go_wp2_with fail
      refine bodyPost_ret (v := .tuple #[.agg #[.int .i64 a, .int .i64 (D : Int)], .int .i64 0]) (by simp [results, Tryz.results30, go_sem, *]) rfl ⟨rfl, ?_⟩
      (repeat' (first | assumption | exact Below.refl _ _ | exact Below.size (by assumption) | (refine Below.setCell ?_ ?_ _) | (refine Below.alloc ?_ ?_ _) | (refine Below.drew ?_) | (refine below_drewN ?_ _) | (refine Below.trans ?_ (Below.mono ‹Below _ _ _› ?_)) | omega | (simp; done) | (simp; omega) | (simp at *; omega)))
    · rw [if_neg hs] at ha
      subst ha
      have t6 := decide_eq_false hs
      clear h0 h1 hd hd1 hN hg hg0 b1 b2 hn hD hn1 hD1 hs
      go_enter Tryz.func30, Tryz.ntmps30
      go_wp2_with (first | (go_at_call 56; (with_reducible refine (S1.out _).mono ?_); rintro e w' ⟨rfl, rfl⟩) | (go_at_call 56; (with_reducible refine (S2.out _).mono ?_); rintro e w' ⟨rfl, rfl⟩) | (go_at_call 57; (with_reducible refine (S3.out _).mono ?_); rintro e w1 ⟨rfl, hb1⟩; obtain ⟨hc1, hf1⟩ := bcell hb1; have hz1 := hb1.size; (try simp at hz1); (try simp only [heap_drew, World.heap_drewN] at hz1); (try simp only [heap_drew, World.heap_drewN] at hc1); (try simp only [heap_drew, World.heap_drewN] at hf1); (try have hs1 := Nat.lt_of_succ_le hz1); (try have hs2 := Nat.lt_of_succ_lt hs1); (try have y0 : w.heap.size < w1.heap.size := by omega); (try have y1 : w.heap.size + 1 < w1.heap.size := by omega); (try have y2 : w.heap.size + 2 < w1.heap.size := by omega)))
      go_quiet (fail)
      have c0 : (w1.drewN nq).cell? ⟨w.heap.size, 0, none⟩ = some (.int .i64 0) := (hc1 _ _ (by simp)).trans (by simp)
      have c1 : (w1.drewN nq).cell? ⟨w.heap.size, 1, none⟩ = some (.int .i64 0) := (hc1 _ _ (by simp)).trans (by simp)
      have f0 : (w1.drewN nq).frozen? ⟨w.heap.size, 0, none⟩ = false := (hf1 _ _ (by simp)).trans (by simp)
      have f1 : (w1.drewN nq).frozen? ⟨w.heap.size, 1, none⟩ = false := (hf1 _ _ (by simp)).trans (by simp)
      have hbq : Below w.heap.size w (w1.drewN nq) := by (repeat' (first | assumption | exact Below.refl _ _ | exact Below.size (by assumption) | (refine Below.setCell ?_ ?_ _) | (refine Below.alloc ?_ ?_ _) | (refine Below.drew ?_) | (refine below_drewN ?_ _) | (refine Below.trans ?_ (Below.mono ‹Below _ _ _› ?_)) | omega | (simp; done) | (simp; omega) | (simp at *; omega)))
      have hsq : w.heap.size < (w1.drewN nq).heap.size := by simp <;> omega
      generalize w1.drewN nq = w2 at c0 c1 f0 f1 hbq hsq ⊢
      clear hc1 hf1 hb1
      go_wp2_with fail
      refine bodyPost_ret (v := .tuple #[.agg #[.int .i64 (n : Int), .int .i64 (D : Int)], .int .i64 0]) (by simp [results, Tryz.results30, go_sem, *]) rfl ⟨rfl, ?_⟩
      (repeat' (first | assumption | exact Below.refl _ _ | exact Below.size (by assumption) | (refine Below.setCell ?_ ?_ _) | (refine Below.alloc ?_ ?_ _) | (refine Below.drew ?_) | (refine below_drewN ?_ _) | (refine Below.trans ?_ (Below.mono ‹Below _ _ _› ?_)) | omega | (simp; done) | (simp; omega) | (simp at *; omega)))
end Go.Proofs.YtapfmbnppeonkaaGreatDoor

namespace Go.Proofs.YtapfmbnppeonkaaGreatDoor
open Go.RowKit
set_option linter.unusedVariables false
set_option linter.unusedSimpArgs false

/-- What At answers, of the integer below the value, the rest and its denominator. -/
def AtIs (q : Int) (r d : Nat) (a b e : Int) : Prop :=
  ((1073741824 < d / Nat.gcd d r ∨ 1073741824 < q ∨ q < -1073741825) ∧ a = 0 ∧ b = 0 ∧ e = 5) ∨
  (d / Nat.gcd d r ≤ 1073741824 ∧ q ≤ 1073741824 ∧ -1073741825 ≤ q ∧ MakeIs (q * ((d / Nat.gcd d r : Nat) : Int) + ((r / Nat.gcd d r : Nat) : Int)) (d / Nat.gcd d r) a b e)
theorem mul_bounds {q : Int} {D : Nat} (h1 : q ≤ 1073741824) (h2 : -1073741825 ≤ q) (hD : D ≤ 1073741824) : -1152921506000000000 ≤ q * (D : Int) ∧ q * (D : Int) ≤ 1152921506000000000 := by
  have a := Int.mul_le_mul_of_nonneg_right h1 (by omega : (0 : Int) ≤ (D : Int))
  have b := Int.mul_le_mul_of_nonneg_right h2 (by omega : (0 : Int) ≤ (D : Int))
  omega

set_option maxHeartbeats 2000000 in
theorem tat (b off m c d r : Nat) (X Y : Nat → Int) (x n1 n2 ee : Int) (hv : TabOK (m + 1) X Y) (w : World) (ht : TabAt w b off (m + 1) X Y)
    (hd : 0 < d) (hd2 : d ≤ 2251799813685248) (hr : Val.rst X Y m x = (r : Int)) (hrd : r < d) (hA : AtIs (Val.val X Y m x) r d n1 n2 ee)
    (hP : ∀ w, TabAt w b off (m + 1) X Y → Calls Tryz.prog 28 #[.slice (some ⟨b, off, none⟩) (m + 1 : Nat) c, .int .i64 x] w fun e w' => e = .returned (.tuple #[.int .i64 (Val.val X Y m x), .int .i64 (Val.rst X Y m x), .int .i64 (d : Int)]) ∧ Below w.heap.size w w') :
    Calls Tryz.prog 13 #[.slice (some ⟨b, off, none⟩) (m + 1 : Nat) c, .int .i64 x] w fun e w' => e = .returned (.tuple #[.agg #[.int .i64 n1, .int .i64 n2], .int .i64 ee]) ∧ Below w.heap.size w w' := by
  have S0 := Lib.hid fun w ht => tvalid b off (m + 1) c X Y w hv.1 hv.2.1 ht
  have tv := tabB_true hv
  have HT := Lib.hid ht
  have hb := ht.1
  have ha := asc_of hv
  have g1 := Val.val_ge (x := x) ha
  have g2 := Val.val_le (x := x) ha
  have g3 := in_of hv (by omega : 0 < m + 1)
  have g4 := in_of hv (by omega : m < m + 1)
  rw [hr] at hP
  obtain ⟨q, hq⟩ : ∃ v, v = Val.val X Y m x := ⟨_, rfl⟩
  rw [← hq] at hP hA g1 g2
  have SP := Lib.hid hP
  obtain ⟨g, hg⟩ : ∃ g, g = Nat.gcd d r := ⟨_, rfl⟩
  have hg0 : 0 < g := by rw [hg]; exact Nat.gcd_pos_of_pos_left _ hd
  have SG := Lib.hid fun w => tgcd d r g (by omega) (by omega) hg w
  unfold AtIs at hA
  rw [← hg] at hA
  have q1 := tdiv_nat r g
  have q2 := tdiv_nat d g
  have b1 : r / g ≤ r := Nat.div_le_self _ _
  have b2 : d / g ≤ d := Nat.div_le_self _ _
  have b3 : 0 < d / g := by rw [hg]; exact Nat.div_pos (Nat.gcd_le_left _ hd) (by omega)
  obtain ⟨R, hR⟩ : ∃ n, n = r / g := ⟨_, rfl⟩
  obtain ⟨D, hD⟩ : ∃ n, n = d / g := ⟨_, rfl⟩
  rw [← hR] at q1 b1 hA
  rw [← hD] at q2 b2 b3 hA
  have t1 : ((g : Int) == 0) = false := by simp <;> omega
  have t2 : ¬ (g : Int) = 0 := by omega
  have e1 : IntKind.i64.wrap (R : Int) = (R : Int) := by rw [IntKind.wrap_i64]; omega
  have e2 : IntKind.i64.wrap (D : Int) = (D : Int) := by rw [IntKind.wrap_i64]; omega
  have HB := Lib.hid (And.intro b2 (And.intro b1 (And.intro hrd hd2)))
  have HQ := Lib.hid (And.intro g1 (And.intro g2 (And.intro g3 g4)))
  have HV3 := Lib.hid b3
  clear hv ht hq g1 g2 g3 g4 hP hR hD b1 b2 b3 hg hg0 hd hd2 hrd hr ha
  rcases hA with ⟨hbig, rfl, rfl, rfl⟩ | ⟨hD1, hq1, hq2, hM⟩
  · by_cases hD1 : 1073741824 < D
    · have T := decide_eq_true (show (1073741824 : Int) < (D : Int) by omega)
      clear hbig hD1
      go_enter Tryz.func13, Tryz.ntmps13
      go_wp2_with (first | (go_at_call 23; (with_reducible refine (S0.out _ ?_).mono ?_); (focus (exact HT.out.below (by (repeat' (first | assumption | exact Below.refl _ _ | exact Below.size (by assumption) | (refine Below.setCell ?_ ?_ _) | (refine Below.alloc ?_ ?_ _) | (refine Below.drew ?_) | (refine below_drewN ?_ _) | (refine Below.trans ?_ (Below.mono ‹Below _ _ _› ?_)) | omega | (simp; done) | (simp; omega) | (simp at *; omega)))) hb)); rintro e w1 ⟨rfl, hb1⟩; obtain ⟨hc1, hf1⟩ := bcell hb1; have hz1 := hb1.size; (try simp at hz1); (try simp only [heap_drew, World.heap_drewN] at hz1); (try simp only [heap_drew, World.heap_drewN] at hc1); (try simp only [heap_drew, World.heap_drewN] at hf1); (try have hs1 := Nat.lt_of_succ_le hz1); (try have hs2 := Nat.lt_of_succ_lt hs1); (try have y0 : w.heap.size < w1.heap.size := by omega); (try have y1 : w.heap.size + 1 < w1.heap.size := by omega); (try have y2 : w.heap.size + 2 < w1.heap.size := by omega)) | (go_at_call 28; (with_reducible refine (SP.out _ ?_).mono ?_); (focus (exact HT.out.below (by (repeat' (first | assumption | exact Below.refl _ _ | exact Below.size (by assumption) | (refine Below.setCell ?_ ?_ _) | (refine Below.alloc ?_ ?_ _) | (refine Below.drew ?_) | (refine below_drewN ?_ _) | (refine Below.trans ?_ (Below.mono ‹Below _ _ _› ?_)) | omega | (simp; done) | (simp; omega) | (simp at *; omega)))) hb)); rintro e w1 ⟨rfl, hb1⟩; obtain ⟨hc1, hf1⟩ := bcell hb1; have hz1 := hb1.size; (try simp at hz1); (try simp only [heap_drew, World.heap_drewN] at hz1); (try simp only [heap_drew, World.heap_drewN] at hc1); (try simp only [heap_drew, World.heap_drewN] at hf1); (try have hs1 := Nat.lt_of_succ_le hz1); (try have hs2 := Nat.lt_of_succ_lt hs1); (try have y0 : w.heap.size < w1.heap.size := by omega); (try have y1 : w.heap.size + 1 < w1.heap.size := by omega); (try have y2 : w.heap.size + 2 < w1.heap.size := by omega)) | (go_at_call 29; (with_reducible refine (SG.out _).mono ?_); rintro e w1 ⟨rfl, hb1⟩; obtain ⟨hc1, hf1⟩ := bcell hb1; have hz1 := hb1.size; (try simp at hz1); (try simp only [heap_drew, World.heap_drewN] at hz1); (try simp only [heap_drew, World.heap_drewN] at hc1); (try simp only [heap_drew, World.heap_drewN] at hf1); (try have hs1 := Nat.lt_of_succ_le hz1); (try have hs2 := Nat.lt_of_succ_lt hs1); (try have y0 : w.heap.size < w1.heap.size := by omega); (try have y1 : w.heap.size + 1 < w1.heap.size := by omega); (try have y2 : w.heap.size + 2 < w1.heap.size := by omega)))
      go_quiet (fail)
      have c0 : (w1.drewN nq).cell? ⟨w.heap.size, 0, none⟩ = some (.int .i64 0) := by simp [go_sem, *]
      have c1 : (w1.drewN nq).cell? ⟨w.heap.size, 1, none⟩ = some (.int .i64 0) := by simp [go_sem, *]
      have f0 : (w1.drewN nq).frozen? ⟨w.heap.size, 0, none⟩ = false := by simp [go_sem, *]
      have f1 : (w1.drewN nq).frozen? ⟨w.heap.size, 1, none⟩ = false := by simp [go_sem, *]
      have hbq : Below w.heap.size w (w1.drewN nq) := by (repeat' (first | assumption | exact Below.refl _ _ | exact Below.size (by assumption) | (refine Below.setCell ?_ ?_ _) | (refine Below.alloc ?_ ?_ _) | (refine Below.drew ?_) | (refine below_drewN ?_ _) | (refine Below.trans ?_ (Below.mono ‹Below _ _ _› ?_)) | omega | (simp; done) | (simp; omega) | (simp at *; omega)))
      have hsq : w.heap.size < (w1.drewN nq).heap.size := by simp <;> omega
      generalize w1.drewN nq = w2 at c0 c1 f0 f1 hbq hsq ⊢
      clear hc1 hf1 hb1
      go_wp2_with fail
      refine bodyPost_ret (v := .tuple #[.agg #[.int .i64 0, .int .i64 0], .int .i64 5]) (by simp [results, Tryz.results13, go_sem, *]) rfl ⟨rfl, ?_⟩
      (repeat' (first | assumption | exact Below.refl _ _ | exact Below.size (by assumption) | (refine Below.setCell ?_ ?_ _) | (refine Below.alloc ?_ ?_ _) | (refine Below.drew ?_) | (refine below_drewN ?_ _) | (refine Below.trans ?_ (Below.mono ‹Below _ _ _› ?_)) | omega | (simp; done) | (simp; omega) | (simp at *; omega)))
    · by_cases hq1 : 1073741824 < q
      · have T := decide_eq_false (show ¬ (1073741824 : Int) < (D : Int) by omega)
        have T2 := decide_eq_true hq1
        clear hbig hD1 hq1
        go_enter Tryz.func13, Tryz.ntmps13
        go_wp2_with (first | (go_at_call 23; (with_reducible refine (S0.out _ ?_).mono ?_); (focus (exact HT.out.below (by (repeat' (first | assumption | exact Below.refl _ _ | exact Below.size (by assumption) | (refine Below.setCell ?_ ?_ _) | (refine Below.alloc ?_ ?_ _) | (refine Below.drew ?_) | (refine below_drewN ?_ _) | (refine Below.trans ?_ (Below.mono ‹Below _ _ _› ?_)) | omega | (simp; done) | (simp; omega) | (simp at *; omega)))) hb)); rintro e w1 ⟨rfl, hb1⟩; obtain ⟨hc1, hf1⟩ := bcell hb1; have hz1 := hb1.size; (try simp at hz1); (try simp only [heap_drew, World.heap_drewN] at hz1); (try simp only [heap_drew, World.heap_drewN] at hc1); (try simp only [heap_drew, World.heap_drewN] at hf1); (try have hs1 := Nat.lt_of_succ_le hz1); (try have hs2 := Nat.lt_of_succ_lt hs1); (try have y0 : w.heap.size < w1.heap.size := by omega); (try have y1 : w.heap.size + 1 < w1.heap.size := by omega); (try have y2 : w.heap.size + 2 < w1.heap.size := by omega)) | (go_at_call 28; (with_reducible refine (SP.out _ ?_).mono ?_); (focus (exact HT.out.below (by (repeat' (first | assumption | exact Below.refl _ _ | exact Below.size (by assumption) | (refine Below.setCell ?_ ?_ _) | (refine Below.alloc ?_ ?_ _) | (refine Below.drew ?_) | (refine below_drewN ?_ _) | (refine Below.trans ?_ (Below.mono ‹Below _ _ _› ?_)) | omega | (simp; done) | (simp; omega) | (simp at *; omega)))) hb)); rintro e w1 ⟨rfl, hb1⟩; obtain ⟨hc1, hf1⟩ := bcell hb1; have hz1 := hb1.size; (try simp at hz1); (try simp only [heap_drew, World.heap_drewN] at hz1); (try simp only [heap_drew, World.heap_drewN] at hc1); (try simp only [heap_drew, World.heap_drewN] at hf1); (try have hs1 := Nat.lt_of_succ_le hz1); (try have hs2 := Nat.lt_of_succ_lt hs1); (try have y0 : w.heap.size < w1.heap.size := by omega); (try have y1 : w.heap.size + 1 < w1.heap.size := by omega); (try have y2 : w.heap.size + 2 < w1.heap.size := by omega)) | (go_at_call 29; (with_reducible refine (SG.out _).mono ?_); rintro e w1 ⟨rfl, hb1⟩; obtain ⟨hc1, hf1⟩ := bcell hb1; have hz1 := hb1.size; (try simp at hz1); (try simp only [heap_drew, World.heap_drewN] at hz1); (try simp only [heap_drew, World.heap_drewN] at hc1); (try simp only [heap_drew, World.heap_drewN] at hf1); (try have hs1 := Nat.lt_of_succ_le hz1); (try have hs2 := Nat.lt_of_succ_lt hs1); (try have y0 : w.heap.size < w1.heap.size := by omega); (try have y1 : w.heap.size + 1 < w1.heap.size := by omega); (try have y2 : w.heap.size + 2 < w1.heap.size := by omega)))
        go_quiet (fail)
        have c0 : (w1.drewN nq).cell? ⟨w.heap.size, 0, none⟩ = some (.int .i64 0) := by simp [go_sem, *]
        have c1 : (w1.drewN nq).cell? ⟨w.heap.size, 1, none⟩ = some (.int .i64 0) := by simp [go_sem, *]
        have f0 : (w1.drewN nq).frozen? ⟨w.heap.size, 0, none⟩ = false := by simp [go_sem, *]
        have f1 : (w1.drewN nq).frozen? ⟨w.heap.size, 1, none⟩ = false := by simp [go_sem, *]
        have hbq : Below w.heap.size w (w1.drewN nq) := by (repeat' (first | assumption | exact Below.refl _ _ | exact Below.size (by assumption) | (refine Below.setCell ?_ ?_ _) | (refine Below.alloc ?_ ?_ _) | (refine Below.drew ?_) | (refine below_drewN ?_ _) | (refine Below.trans ?_ (Below.mono ‹Below _ _ _› ?_)) | omega | (simp; done) | (simp; omega) | (simp at *; omega)))
        have hsq : w.heap.size < (w1.drewN nq).heap.size := by simp <;> omega
        generalize w1.drewN nq = w2 at c0 c1 f0 f1 hbq hsq ⊢
        clear hc1 hf1 hb1
        go_wp2_with fail
        refine bodyPost_ret (v := .tuple #[.agg #[.int .i64 0, .int .i64 0], .int .i64 5]) (by simp [results, Tryz.results13, go_sem, *]) rfl ⟨rfl, ?_⟩
        (repeat' (first | assumption | exact Below.refl _ _ | exact Below.size (by assumption) | (refine Below.setCell ?_ ?_ _) | (refine Below.alloc ?_ ?_ _) | (refine Below.drew ?_) | (refine below_drewN ?_ _) | (refine Below.trans ?_ (Below.mono ‹Below _ _ _› ?_)) | omega | (simp; done) | (simp; omega) | (simp at *; omega)))
      · have T := decide_eq_false (show ¬ (1073741824 : Int) < (D : Int) by omega)
        have T2 := decide_eq_false hq1
        have T3 : decide (q < -1073741825) = true := decide_eq_true (by omega)
        clear hbig hD1 hq1
        go_enter Tryz.func13, Tryz.ntmps13
        go_wp2_with (first | (go_at_call 23; (with_reducible refine (S0.out _ ?_).mono ?_); (focus (exact HT.out.below (by (repeat' (first | assumption | exact Below.refl _ _ | exact Below.size (by assumption) | (refine Below.setCell ?_ ?_ _) | (refine Below.alloc ?_ ?_ _) | (refine Below.drew ?_) | (refine below_drewN ?_ _) | (refine Below.trans ?_ (Below.mono ‹Below _ _ _› ?_)) | omega | (simp; done) | (simp; omega) | (simp at *; omega)))) hb)); rintro e w1 ⟨rfl, hb1⟩; obtain ⟨hc1, hf1⟩ := bcell hb1; have hz1 := hb1.size; (try simp at hz1); (try simp only [heap_drew, World.heap_drewN] at hz1); (try simp only [heap_drew, World.heap_drewN] at hc1); (try simp only [heap_drew, World.heap_drewN] at hf1); (try have hs1 := Nat.lt_of_succ_le hz1); (try have hs2 := Nat.lt_of_succ_lt hs1); (try have y0 : w.heap.size < w1.heap.size := by omega); (try have y1 : w.heap.size + 1 < w1.heap.size := by omega); (try have y2 : w.heap.size + 2 < w1.heap.size := by omega)) | (go_at_call 28; (with_reducible refine (SP.out _ ?_).mono ?_); (focus (exact HT.out.below (by (repeat' (first | assumption | exact Below.refl _ _ | exact Below.size (by assumption) | (refine Below.setCell ?_ ?_ _) | (refine Below.alloc ?_ ?_ _) | (refine Below.drew ?_) | (refine below_drewN ?_ _) | (refine Below.trans ?_ (Below.mono ‹Below _ _ _› ?_)) | omega | (simp; done) | (simp; omega) | (simp at *; omega)))) hb)); rintro e w1 ⟨rfl, hb1⟩; obtain ⟨hc1, hf1⟩ := bcell hb1; have hz1 := hb1.size; (try simp at hz1); (try simp only [heap_drew, World.heap_drewN] at hz1); (try simp only [heap_drew, World.heap_drewN] at hc1); (try simp only [heap_drew, World.heap_drewN] at hf1); (try have hs1 := Nat.lt_of_succ_le hz1); (try have hs2 := Nat.lt_of_succ_lt hs1); (try have y0 : w.heap.size < w1.heap.size := by omega); (try have y1 : w.heap.size + 1 < w1.heap.size := by omega); (try have y2 : w.heap.size + 2 < w1.heap.size := by omega)) | (go_at_call 29; (with_reducible refine (SG.out _).mono ?_); rintro e w1 ⟨rfl, hb1⟩; obtain ⟨hc1, hf1⟩ := bcell hb1; have hz1 := hb1.size; (try simp at hz1); (try simp only [heap_drew, World.heap_drewN] at hz1); (try simp only [heap_drew, World.heap_drewN] at hc1); (try simp only [heap_drew, World.heap_drewN] at hf1); (try have hs1 := Nat.lt_of_succ_le hz1); (try have hs2 := Nat.lt_of_succ_lt hs1); (try have y0 : w.heap.size < w1.heap.size := by omega); (try have y1 : w.heap.size + 1 < w1.heap.size := by omega); (try have y2 : w.heap.size + 2 < w1.heap.size := by omega)))
        go_quiet (fail)
        have c0 : (w1.drewN nq).cell? ⟨w.heap.size, 0, none⟩ = some (.int .i64 0) := by simp [go_sem, *]
        have c1 : (w1.drewN nq).cell? ⟨w.heap.size, 1, none⟩ = some (.int .i64 0) := by simp [go_sem, *]
        have f0 : (w1.drewN nq).frozen? ⟨w.heap.size, 0, none⟩ = false := by simp [go_sem, *]
        have f1 : (w1.drewN nq).frozen? ⟨w.heap.size, 1, none⟩ = false := by simp [go_sem, *]
        have hbq : Below w.heap.size w (w1.drewN nq) := by (repeat' (first | assumption | exact Below.refl _ _ | exact Below.size (by assumption) | (refine Below.setCell ?_ ?_ _) | (refine Below.alloc ?_ ?_ _) | (refine Below.drew ?_) | (refine below_drewN ?_ _) | (refine Below.trans ?_ (Below.mono ‹Below _ _ _› ?_)) | omega | (simp; done) | (simp; omega) | (simp at *; omega)))
        have hsq : w.heap.size < (w1.drewN nq).heap.size := by simp <;> omega
        generalize w1.drewN nq = w2 at c0 c1 f0 f1 hbq hsq ⊢
        clear hc1 hf1 hb1
        go_wp2_with fail
        refine bodyPost_ret (v := .tuple #[.agg #[.int .i64 0, .int .i64 0], .int .i64 5]) (by simp [results, Tryz.results13, go_sem, *]) rfl ⟨rfl, ?_⟩
        (repeat' (first | assumption | exact Below.refl _ _ | exact Below.size (by assumption) | (refine Below.setCell ?_ ?_ _) | (refine Below.alloc ?_ ?_ _) | (refine Below.drew ?_) | (refine below_drewN ?_ _) | (refine Below.trans ?_ (Below.mono ‹Below _ _ _› ?_)) | omega | (simp; done) | (simp; omega) | (simp at *; omega)))
  · have T := decide_eq_false (show ¬ (1073741824 : Int) < (D : Int) by omega)
    have T2 : decide (1073741824 < q) = false := decide_eq_false (by omega)
    have T3 : decide (q < -1073741825) = false := decide_eq_false (by omega)
    have hmb := mul_bounds hq1 hq2 hD1
    obtain ⟨P, hP⟩ : ∃ z, z = q * (D : Int) := ⟨_, rfl⟩
    rw [← hP] at hmb hM
    have hR1 : R ≤ 2251799813685248 := by have := HB.out; omega
    have e3 : IntKind.i64.wrap (q * (D : Int)) = P := by rw [← hP, IntKind.wrap_i64]; omega
    obtain ⟨M, hMM⟩ : ∃ z, z = P + (R : Int) := ⟨_, rfl⟩
    have e4 : IntKind.i64.wrap (P + (R : Int)) = M := by rw [← hMM, IntKind.wrap_i64]; omega
    rw [← hMM] at hM
    have SM := Lib.hid fun w => tmake M D n1 n2 ee (by omega) (by omega) HV3.out (by omega) hM w
    clear hM hmb hP hMM hR1 hD1 hq1 hq2
    go_enter Tryz.func13, Tryz.ntmps13
    go_wp2_with (first | (go_at_call 23; (with_reducible refine (S0.out _ ?_).mono ?_); (focus (exact HT.out.below (by (repeat' (first | assumption | exact Below.refl _ _ | exact Below.size (by assumption) | (refine Below.setCell ?_ ?_ _) | (refine Below.alloc ?_ ?_ _) | (refine Below.drew ?_) | (refine below_drewN ?_ _) | (refine Below.trans ?_ (Below.mono ‹Below _ _ _› ?_)) | omega | (simp; done) | (simp; omega) | (simp at *; omega)))) hb)); rintro e w1 ⟨rfl, hb1⟩; obtain ⟨hc1, hf1⟩ := bcell hb1; have hz1 := hb1.size; (try simp at hz1); (try simp only [heap_drew, World.heap_drewN] at hz1); (try simp only [heap_drew, World.heap_drewN] at hc1); (try simp only [heap_drew, World.heap_drewN] at hf1); (try have hs1 := Nat.lt_of_succ_le hz1); (try have hs2 := Nat.lt_of_succ_lt hs1); (try have y0 : w.heap.size < w1.heap.size := by omega); (try have y1 : w.heap.size + 1 < w1.heap.size := by omega); (try have y2 : w.heap.size + 2 < w1.heap.size := by omega)) | (go_at_call 28; (with_reducible refine (SP.out _ ?_).mono ?_); (focus (exact HT.out.below (by (repeat' (first | assumption | exact Below.refl _ _ | exact Below.size (by assumption) | (refine Below.setCell ?_ ?_ _) | (refine Below.alloc ?_ ?_ _) | (refine Below.drew ?_) | (refine below_drewN ?_ _) | (refine Below.trans ?_ (Below.mono ‹Below _ _ _› ?_)) | omega | (simp; done) | (simp; omega) | (simp at *; omega)))) hb)); rintro e w1 ⟨rfl, hb1⟩; obtain ⟨hc1, hf1⟩ := bcell hb1; have hz1 := hb1.size; (try simp at hz1); (try simp only [heap_drew, World.heap_drewN] at hz1); (try simp only [heap_drew, World.heap_drewN] at hc1); (try simp only [heap_drew, World.heap_drewN] at hf1); (try have hs1 := Nat.lt_of_succ_le hz1); (try have hs2 := Nat.lt_of_succ_lt hs1); (try have y0 : w.heap.size < w1.heap.size := by omega); (try have y1 : w.heap.size + 1 < w1.heap.size := by omega); (try have y2 : w.heap.size + 2 < w1.heap.size := by omega)) | (go_at_call 29; (with_reducible refine (SG.out _).mono ?_); rintro e w1 ⟨rfl, hb1⟩; obtain ⟨hc1, hf1⟩ := bcell hb1; have hz1 := hb1.size; (try simp at hz1); (try simp only [heap_drew, World.heap_drewN] at hz1); (try simp only [heap_drew, World.heap_drewN] at hc1); (try simp only [heap_drew, World.heap_drewN] at hf1); (try have hs1 := Nat.lt_of_succ_le hz1); (try have hs2 := Nat.lt_of_succ_lt hs1); (try have y0 : w.heap.size < w1.heap.size := by omega); (try have y1 : w.heap.size + 1 < w1.heap.size := by omega); (try have y2 : w.heap.size + 2 < w1.heap.size := by omega)))
    go_quiet (fail)
    have c0 : (w1.drewN nq).cell? ⟨w.heap.size, 0, none⟩ = some (.int .i64 0) := by simp [go_sem, *]
    have c1 : (w1.drewN nq).cell? ⟨w.heap.size, 1, none⟩ = some (.int .i64 0) := by simp [go_sem, *]
    have f0 : (w1.drewN nq).frozen? ⟨w.heap.size, 0, none⟩ = false := by simp [go_sem, *]
    have f1 : (w1.drewN nq).frozen? ⟨w.heap.size, 1, none⟩ = false := by simp [go_sem, *]
    have hbq : Below w.heap.size w (w1.drewN nq) := by (repeat' (first | assumption | exact Below.refl _ _ | exact Below.size (by assumption) | (refine Below.setCell ?_ ?_ _) | (refine Below.alloc ?_ ?_ _) | (refine Below.drew ?_) | (refine below_drewN ?_ _) | (refine Below.trans ?_ (Below.mono ‹Below _ _ _› ?_)) | omega | (simp; done) | (simp; omega) | (simp at *; omega)))
    have hsq : w.heap.size < (w1.drewN nq).heap.size := by simp <;> omega
    generalize w1.drewN nq = w2 at c0 c1 f0 f1 hbq hsq ⊢
    clear hc1 hf1 hb1
    go_wp2_with (first | (go_at_call 30; (with_reducible refine (SM.out _).mono ?_); rintro e w3 ⟨rfl, hb3⟩; obtain ⟨hc3, hf3⟩ := bcell hb3; have hz3 := hb3.size; (try simp at hz3); (try simp only [heap_drew, World.heap_drewN] at hz3); (try simp only [heap_drew, World.heap_drewN] at hc3); (try simp only [heap_drew, World.heap_drewN] at hf3); (try have hs1 := Nat.lt_of_succ_le hz3); (try have hs2 := Nat.lt_of_succ_lt hs1); (try have y0 : w.heap.size < w3.heap.size := by omega); (try have y1 : w.heap.size + 1 < w3.heap.size := by omega); (try have y2 : w.heap.size + 2 < w3.heap.size := by omega)))
    refine bodyPost_ret (v := .tuple #[.agg #[.int .i64 n1, .int .i64 n2], .int .i64 ee]) (by simp [results, Tryz.results13, go_sem, *]) rfl ⟨rfl, ?_⟩
    (repeat' (first | assumption | exact Below.refl _ _ | exact Below.size (by assumption) | (refine Below.setCell ?_ ?_ _) | (refine Below.alloc ?_ ?_ _) | (refine Below.drew ?_) | (refine below_drewN ?_ _) | (refine Below.trans ?_ (Below.mono ‹Below _ _ _› ?_)) | omega | (simp; done) | (simp; omega) | (simp at *; omega)))
end Go.Proofs.YtapfmbnppeonkaaGreatDoor

/- The reference's decimal text of every number of at most 18 digits, and its text of a table. -/
import Derived.Test.YthbdeaglncoanaaGreatDoorText
import Derived.Test.YthbdeaglncoanaaGreatDoorTxT
namespace Go.Proofs.YthbdeaglncoanaaGreatDoor
open Go.RowKit
set_option linter.unusedVariables false
set_option linter.unusedSimpArgs false

theorem dg_eq (d : Nat) (hd : d < 10) : dg d = ⟨#[UInt8.ofNat (48 + d)]⟩ := by
  have : d = 0 ∨ d = 1 ∨ d = 2 ∨ d = 3 ∨ d = 4 ∨ d = 5 ∨ d = 6 ∨ d = 7 ∨ d = 8 ∨ d = 9 := by omega
  rcases this with rfl | rfl | rfl | rfl | rfl | rfl | rfl | rfl | rfl | rfl <;> rfl
theorem decB_one {u : Nat} (h : u < 10) : (⟨(Lib.decDigits u).toArray⟩ : ByteArray) = dg u := by rw [Lib.decDigits_one h, dg_eq u h]
theorem decB_big {u : Nat} (h : ¬ u < 10) : (⟨(Lib.decDigits u).toArray⟩ : ByteArray) = (⟨(Lib.decDigits (u / 10)).toArray⟩ : ByteArray) ++ dg (u % 10) := by
  rw [dg_eq _ (by omega)]
  apply ByteArray.ext
  apply Array.ext'
  rw [ByteArray.data_append]
  conv => lhs; rw [Lib.decDigits, dif_neg h]
  simp
theorem decB_size {u : Nat} (h : u < 1000000000000000000) : (((⟨(Lib.decDigits u).toArray⟩ : ByteArray).size : Nat) : Int) ≤ 8388608 := by
  have : (⟨(Lib.decDigits u).toArray⟩ : ByteArray).size = (Lib.decDigits u).length := rfl
  rw [this, Lib.decDigits_length]
  have := nDigits_le 18 u (by decide) (by rw [pow18]; exact h)
  omega
theorem rdecN (n : Nat) : n < 1000000000000000000 → ∀ w, Calls Tryz.prog 54 #[.int .i64 (n : Int)] w fun e w' => e = .returned (.string ⟨(Lib.decDigits n).toArray⟩) ∧ w = w' := by
  induction n using Nat.strongRecOn with
  | _ n ih =>
    intro hn w
    by_cases h10 : n < 10
    · rw [decB_one h10]
      exact rdec_one n h10 w
    · obtain ⟨a, ha⟩ : ∃ z, z = n / 10 := ⟨_, rfl⟩
      obtain ⟨b, hb⟩ : ∃ z, z = n % 10 := ⟨_, rfl⟩
      have s := fun w => ih a (by omega) (by omega) w
      have z1 := decB_size (u := a) (by omega)
      rw [decB_big h10, ← ha, ← hb]
      have e1 : Int.tmod (n : Int) 10 = (b : Int) := (tmod_nat n 10).trans (by omega)
      have e0 : Int.tdiv (n : Int) 10 = (a : Int) := (tdiv_nat n 10).trans (by omega)
      have e1' : (n : Int) % 10 = (b : Int) := by omega
      have e0' : (n : Int) / 10 = (a : Int) := by omega
      obtain ⟨c, hc⟩ : ∃ c, c = 48 + b := ⟨_, rfl⟩
      have e2 : IntKind.i64.wrap (48 + (b : Int)) = (c : Int) := by rw [IntKind.wrap_i64]; omega
      have e3 : IntKind.i32.wrap (c : Int) = (c : Int) := by unfold IntKind.wrap; simp [IntKind.bits, IntKind.signed]; omega
      have t1 : decide ((n : Int) < 0) = false := by simp
      have t2 : decide ((10 : Int) ≤ (n : Int)) = true := decide_eq_true (by omega)
      have e5 : dg b = Utf8.encode (c : Int) := by unfold dg; rw [hc]
      have z2 := dg_size b (by omega)
      rw [e5] at z2 ⊢
      generalize (⟨(Lib.decDigits a).toArray⟩ : ByteArray) = da at *
      have S := Lib.hid s
      generalize hdc : Utf8.encode (c : Int) = dc at *
      have e4 : IntKind.i64.wrap (a : Int) = (a : Int) := by rw [IntKind.wrap_i64]; omega
      clear ha hb hc hn e5 ih s h10
      go_enter Tryz.func54, Tryz.ntmps54
      go_wp2_with (first | (go_at_call 54; (with_reducible refine (S.out _).mono ?_); rintro e w' ⟨rfl, rfl⟩))
      go_ret
      exact ⟨rfl, rfl⟩
theorem tmod_neg (n k : Nat) : Int.tmod (-(n : Int)) (k : Int) = -((n % k : Nat) : Int) := by rw [Int.neg_tmod, Int.ofNat_tmod]
theorem tdiv_neg (n k : Nat) : Int.tdiv (-(n : Int)) (k : Int) = -((n / k : Nat) : Int) := by rw [Int.neg_tdiv, Int.ofNat_tdiv]
theorem minB (l : List UInt8) : (⟨(45 :: l).toArray⟩ : ByteArray) = (⟨#[45]⟩ : ByteArray) ++ ⟨l.toArray⟩ := by
  apply ByteArray.ext
  apply Array.ext'
  rw [ByteArray.data_append]
  simp
theorem minB_size {l : List UInt8} (h : l.length ≤ 18) : (((⟨(45 :: l).toArray⟩ : ByteArray).size : Nat) : Int) ≤ 8388608 := by
  have : (⟨(45 :: l).toArray⟩ : ByteArray).size = (45 :: l).length := rfl
  rw [this, List.length_cons]; omega
theorem rdecM (n : Nat) : 0 < n → n < 1000000000000000000 → ∀ w, Calls Tryz.prog 54 #[.int .i64 (-(n : Int))] w fun e w' => e = .returned (.string ⟨(45 :: Lib.decDigits n).toArray⟩) ∧ w = w' := by
  induction n using Nat.strongRecOn with
  | _ n ih =>
    intro h0 hn w
    obtain ⟨m, hm⟩ : ∃ m : Int, m = -(n : Int) := ⟨_, rfl⟩
    have t1 : decide (m < 0) = true := decide_eq_true (by omega)
    by_cases h10 : n < 10
    · obtain ⟨c, hc⟩ : ∃ c, c = 48 + n := ⟨_, rfl⟩
      have e2 : IntKind.i64.wrap (48 - m) = (c : Int) := by rw [IntKind.wrap_i64]; omega
      have e3 : IntKind.i32.wrap (c : Int) = (c : Int) := by unfold IntKind.wrap; simp [IntKind.bits, IntKind.signed]; omega
      have t2 : decide ((-10 : Int) < m) = true := decide_eq_true (by omega)
      have e5 : dg n = Utf8.encode (c : Int) := by unfold dg; rw [hc]
      have z2 := dg_size n h10
      rw [minB, decB_one h10, e5]
      rw [e5] at z2
      rw [← hm]
      generalize hdc : Utf8.encode (c : Int) = dc at *
      clear hc hn e5 ih h10 h0 hm
      go_enter Tryz.func54, Tryz.ntmps54
      go_wp2_with fail
      go_ret
      exact ⟨rfl, rfl⟩
    · obtain ⟨a, ha⟩ : ∃ z, z = n / 10 := ⟨_, rfl⟩
      obtain ⟨b, hb⟩ : ∃ z, z = n % 10 := ⟨_, rfl⟩
      obtain ⟨q, hq⟩ : ∃ q : Int, q = -(a : Int) := ⟨_, rfl⟩
      obtain ⟨r, hr⟩ : ∃ r : Int, r = -(b : Int) := ⟨_, rfl⟩
      have s := fun w => ih a (by omega) (by omega) (by omega) w
      rw [← hq] at s
      have hl : (Lib.decDigits a).length ≤ 18 := by rw [Lib.decDigits_length]; exact nDigits_le 18 a (by decide) (by rw [pow18]; omega)
      have z1 := minB_size hl
      have eB : (⟨(45 :: Lib.decDigits n).toArray⟩ : ByteArray) = (⟨(45 :: Lib.decDigits a).toArray⟩ : ByteArray) ++ dg b := by
        rw [minB (Lib.decDigits n), minB (Lib.decDigits a), decB_big h10, ← ha, ← hb, ByteArray.append_assoc]
      rw [eB]
      have e1 : Int.tmod m 10 = r := by rw [hm, hr, hb]; exact tmod_neg n 10
      have e0 : Int.tdiv m 10 = q := by rw [hm, hq, ha]; exact tdiv_neg n 10
      obtain ⟨c, hc⟩ : ∃ c, c = 48 + b := ⟨_, rfl⟩
      have e2 : IntKind.i64.wrap (48 - r) = (c : Int) := by rw [IntKind.wrap_i64]; omega
      have e3 : IntKind.i32.wrap (c : Int) = (c : Int) := by unfold IntKind.wrap; simp [IntKind.bits, IntKind.signed]; omega
      have t2 : decide ((-10 : Int) < m) = false := decide_eq_false (by omega)
      have e5 : dg b = Utf8.encode (c : Int) := by unfold dg; rw [hc]
      have z2 := dg_size b (by omega)
      rw [e5] at z2 ⊢
      rw [← hm]
      generalize (⟨(45 :: Lib.decDigits a).toArray⟩ : ByteArray) = da at *
      have S := Lib.hid s
      generalize hdc : Utf8.encode (c : Int) = dc at *
      have e4 : IntKind.i64.wrap q = q := by rw [IntKind.wrap_i64]; omega
      clear ha hb hc hn e5 ih s h10 eB h0 hm hq hr hl
      go_enter Tryz.func54, Tryz.ntmps54
      go_wp2_with (first | (go_at_call 54; (with_reducible refine (S.out _).mono ?_); rintro e w' ⟨rfl, rfl⟩))
      go_ret
      exact ⟨rfl, rfl⟩
theorem rdec (v : Int) (h : near v) (w : World) : Calls Tryz.prog 54 #[.int .i64 v] w fun e w' => e = .returned (.string ⟨(Lib.itoa v).toArray⟩) ∧ w = w' := by
  have h1 := h.1
  have h2 := h.2
  by_cases hv : v < 0
  · rw [itoa_neg' hv]
    have e : v = -((v.natAbs : Nat) : Int) := by omega
    have := rdecM v.natAbs (by omega) (by omega) w
    rw [← e] at this
    exact this
  · rw [itoa_pos' hv]
    have e : v = ((v.toNat : Nat) : Int) := by omega
    have := rdecN v.toNat (by omega) w
    rw [← e] at this
    exact this
theorem tt_tx (X Y : Nat → Int) : ∀ n, (tt (fun v => ⟨(Lib.itoa v).toArray⟩) X Y n).data.toList = txL X Y n
  | 0 => rfl
  | n + 1 => by
    show ((((if 0 < n then tt _ X Y n ++ ⟨#[32]⟩ else tt _ X Y n) ++ ⟨(Lib.itoa (X n)).toArray⟩) ++ ⟨#[58]⟩) ++ ⟨(Lib.itoa (Y n)).toArray⟩ : ByteArray).data.toList = (if 0 < n then txL X Y n ++ [32] else txL X Y n) ++ ktx (X n) (Y n)
    have ih := tt_tx X Y n
    split <;> simp [ByteArray.data_append, ih, ktx]
/-- The reference's text of a valid table. -/
theorem rtext_ok (b off n c : Nat) (X Y : Nat → Int) (w : World) (hok : TabOK n X Y) (ht : TabAt w b off n X Y) :
    Calls Tryz.prog 32 #[.slice (some ⟨b, off, none⟩) n c] w fun e w' => e = .returned (.string ⟨(txL X Y n).toArray⟩) ∧ Below w.heap.size w w' := by
  have := rtext b off n c X Y (fun v => ⟨(Lib.itoa v).toArray⟩) w hok.2.1 ht (fun k hk w => rdec _ (hok.near k hk).1 w) (fun k hk w => rdec _ (hok.near k hk).2 w) (fun k hk => ⟨Nat.le_trans (itoa_size (hok.near k hk).1) (by omega), Nat.le_trans (itoa_size (hok.near k hk).2) (by omega)⟩)
  rw [list_of (tt_tx X Y n)] at this
  exact this
end Go.Proofs.YthbdeaglncoanaaGreatDoor

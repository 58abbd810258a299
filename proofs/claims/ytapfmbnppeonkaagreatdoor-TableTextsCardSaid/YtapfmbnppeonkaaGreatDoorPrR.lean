/- The reference's number and Parse of a table. -/
import Derived.Test.YtapfmbnppeonkaaGreatDoorRdc
import Derived.Test.YtapfmbnppeonkaaGreatDoorPrT
namespace Go.Proofs.YtapfmbnppeonkaaGreatDoor
open Go.RowKit
set_option linter.unusedVariables false
set_option linter.unusedSimpArgs false

/-- What the reference's number reads: the value, how many digits. -/
def rd : Nat → List UInt8 → Nat → Nat × Nat
  | 0, _, n => (n, 0)
  | _ + 1, [], n => (n, 0)
  | f + 1, c :: r, n => if c.toNat < 48 ∨ 57 < c.toNat then (n, 0) else ((rd f r (10 * n + (c.toNat - 48))).1, (rd f r (10 * n + (c.toNat - 48))).2 + 1)
def NoDig (r : List UInt8) : Prop := ∀ c r', r = c :: r' → c.toNat < 48 ∨ 57 < c.toNat
theorem rd_stop {r : List UInt8} (h : NoDig r) (f n : Nat) : rd f r n = (n, 0) := by
  cases f with
  | zero => rfl
  | succ f =>
    cases r with
    | nil => rfl
    | cons c r => simp only [rd, if_pos (h c r rfl)]
def val : List UInt8 → Nat → Nat
  | [], n => n
  | c :: r, n => val r (10 * n + (c.toNat - 48))
theorem val_snoc (l : List UInt8) (c : UInt8) : ∀ n, val (l ++ [c]) n = 10 * val l n + (c.toNat - 48) := by
  induction l with
  | nil => intro n; rfl
  | cons a l ih => intro n; exact ih _
theorem val_dec : ∀ u : Nat, val (Lib.decDigits u) 0 = u := by
  intro u
  induction u using Nat.strongRecOn with
  | _ u ih =>
    by_cases hu : u < 10
    · rw [Lib.decDigits_one hu]
      simp only [val, digit_nat hu]
      omega
    · rw [Lib.decDigits, dif_neg hu, val_snoc, ih (u / 10) (by omega), digit_nat (by omega : u % 10 < 10)]
      omega
theorem rd_run (r : List UInt8) : ∀ (l : List UInt8) (f n : Nat), (∀ c, c ∈ l → 48 ≤ c.toNat ∧ c.toNat ≤ 57) → l.length ≤ f → rd f (l ++ r) n = ((rd (f - l.length) r (val l n)).1, (rd (f - l.length) r (val l n)).2 + l.length) := by
  intro l
  induction l with
  | nil => intro f n _ _; simp [val]
  | cons c l ih =>
    intro f n hd hl
    obtain ⟨g, rfl⟩ : ∃ g, f = g + 1 := ⟨f - 1, by simp at hl; omega⟩
    have hc := hd c (by simp)
    simp only [List.cons_append, rd, if_neg (show ¬ (c.toNat < 48 ∨ 57 < c.toNat) by omega)]
    rw [ih g _ (fun x hx => hd x (by simp [hx])) (by simp at hl; omega)]
    simp [val]
    omega
theorem rd_dec {r : List UInt8} (h : NoDig r) {u : Nat} (hu : u < 1000000000000000000) : rd 18 (Lib.decDigits u ++ r) 0 = (u, (Lib.decDigits u).length) := by
  rw [rd_run r _ 18 0 (fun c hc => dec_byte u c hc) (by rw [Lib.decDigits_length]; exact nDigits_le 18 u (by decide) (by rw [pow18]; exact hu)), rd_stop h, val_dec]
  simp
theorem rd_bound : ∀ (f : Nat) (l : List UInt8) (n t : Nat), n < 10 ^ t → (rd f l n).1 < 10 ^ (t + f) ∧ (rd f l n).2 ≤ f ∧ (rd f l n).2 ≤ l.length := by
  intro f
  induction f with
  | zero => intro l n t h; exact ⟨h, Nat.le_refl _, Nat.zero_le _⟩
  | succ f ih =>
    intro l n t h
    cases l with
    | nil => exact ⟨Nat.lt_of_lt_of_le h (Nat.pow_le_pow_right (by decide) (by omega)), Nat.zero_le _, Nat.zero_le _⟩
    | cons c r =>
      simp only [rd]
      by_cases hc : c.toNat < 48 ∨ 57 < c.toNat
      · rw [if_pos hc]
        exact ⟨Nat.lt_of_lt_of_le h (Nat.pow_le_pow_right (by decide) (by omega)), Nat.zero_le _, Nat.zero_le _⟩
      · rw [if_neg hc]
        have := ih r (10 * n + (c.toNat - 48)) (t + 1) (by rw [Nat.pow_succ]; omega)
        refine ⟨?_, by omega, by simp; omega⟩
        rw [show t + (f + 1) = t + 1 + f from by omega]
        exact this.1
/-- What the loop over the digits keeps. -/
def DgI (T : List UInt8) (first V J k n : Nat) : Prop := ∃ t, t ≤ 18 ∧ k = first + t ∧ n < 10 ^ t ∧ k ≤ J ∧ rd (18 - t) (T.drop k) n = (V, J - k)
theorem byte_at (s : ByteArray) (k : Nat) (h : k < s.size) : s.data.toList.drop k = s[k] :: s.data.toList.drop (k + 1) := by
  have hl : k < s.data.toList.length := by rw [← size_list]; exact h
  rw [List.drop_eq_getElem_cons hl]
  congr 1
theorem DgI.end_ {T : List UInt8} {first V J k n : Nat} (h : DgI T first V J k n) (he : T.length ≤ k) : n = V ∧ k = J := by
  obtain ⟨t, h1, h2, h3, h4, h5⟩ := h
  rw [List.drop_of_length_le he, rd_stop (fun c r e => by cases e)] at h5
  have := congrArg Prod.fst h5
  have := congrArg Prod.snd h5
  simp at *
  omega
theorem DgI.full {T : List UInt8} {first V J k n : Nat} (h : DgI T first V J k n) (he : ¬ k < first + 18) : n = V ∧ k = J := by
  obtain ⟨t, h1, h2, h3, h4, h5⟩ := h
  have : t = 18 := by omega
  subst this
  have e1 := congrArg Prod.fst h5
  have e2 := congrArg Prod.snd h5
  simp [rd] at e1 e2
  omega
theorem DgI.other {s : ByteArray} {first V J k n : Nat} (h : DgI s.data.toList first V J k n) (hk : k < s.size) (hc : (s[k]).toNat < 48 ∨ 57 < (s[k]).toNat) : n = V ∧ k = J := by
  obtain ⟨t, h1, h2, h3, h4, h5⟩ := h
  rw [byte_at s k hk, rd_stop (fun c r e => by cases e; exact hc)] at h5
  have e1 := congrArg Prod.fst h5
  have e2 := congrArg Prod.snd h5
  simp at e1 e2
  omega
theorem DgI.next {s : ByteArray} {first V J k n : Nat} (h : DgI s.data.toList first V J k n) (hk : k < s.size) (hf : k < first + 18) (hc : ¬ ((s[k]).toNat < 48 ∨ 57 < (s[k]).toNat)) : DgI s.data.toList first V J (k + 1) (10 * n + ((s[k]).toNat - 48)) ∧ n < 100000000000000000 := by
  obtain ⟨t, h1, h2, h3, h4, h5⟩ := h
  have hp : (10 : Nat) ^ t ≤ 10 ^ 17 := Nat.pow_le_pow_right (by decide) (by omega)
  have h17 : (10 : Nat) ^ 17 = 100000000000000000 := by decide
  obtain ⟨f, hf'⟩ : ∃ f, 18 - t = f + 1 := ⟨17 - t, by omega⟩
  rw [byte_at s k hk, hf'] at h5
  simp only [rd, if_neg hc] at h5
  have e1 := congrArg Prod.fst h5
  have e2 := congrArg Prod.snd h5
  simp at e1 e2
  refine ⟨⟨t + 1, by omega, by omega, by rw [Nat.pow_succ]; omega, by omega, ?_⟩, by omega⟩
  rw [show 18 - (t + 1) = f from by omega]
  exact Prod.ext e1 (by show _ = J - (k + 1); omega)
theorem DgI.small {T : List UInt8} {first V J k n : Nat} (h : DgI T first V J k n) : n < 1000000000000000000 := by
  obtain ⟨t, h1, h2, h3, h4, h5⟩ := h
  have := Nat.pow_le_pow_right (n := 10) (by decide) h1
  rw [pow18] at this
  omega
theorem pow18' : (10 : Nat) ^ (0 + 18) = 1000000000000000000 := by decide
set_option maxRecDepth 100000 in
set_option maxHeartbeats 4000000 in
theorem rnumT0 (s : ByteArray) (hs : s.size ≤ 100000) (i : Nat) (hi : i ≤ s.size) (ng : Bool) (first V J : Nat) (hng : ng = true → ∃ h : i < s.size, s[i] = 45) (hng' : ng = false → ∀ h : i < s.size, s[i] ≠ 45)
    (hf : first = if ng = true then i + 1 else i) (h0 : DgI s.data.toList first V J first 0) (hfs : first ≤ s.size) (w : World) :
    Calls Tryz.prog 22 #[.string s, .int .i64 (i : Int)] w fun e w' => e = .returned (.tuple #[.int .i64 (if ng = true then -(V : Int) else (V : Int)), .int .i64 (J : Int)]) ∧ w = w' := by
  have HS := Lib.hid hs
  have HD := Lib.hid h0
  have HFS := Lib.hid hfs
  cases ng with
  | true =>
    obtain ⟨hlt, h45⟩ := hng rfl
    have T0 : decide ((i : Int) < (s.size : Int)) = true := decide_eq_true (by omega)
    have T0' : decide (i < s.size) = true := decide_eq_true hlt
    have k0 : (0 : Int) ≤ (i : Int) := by omega
    have k1 : (i : Int) < (s.size : Int) := by omega
    obtain ⟨c, hc⟩ : ∃ c : Nat, (s[i]'hlt).toNat = c := ⟨_, rfl⟩
    have u1 : ((c : Int) == 45) = true := by rw [← hc, h45]; decide
    have u2 : decide (c = 45) = true := by rw [← hc, h45]; decide
    rw [if_pos rfl] at hf
    have x0 : IntKind.i64.wrap ((i : Int) + 1) = (first : Int) := by rw [IntKind.wrap_i64]; omega
    rw [if_pos rfl]
    clear hng hng' hf h0 hfs hs h45
    go_enter Tryz.func22, Tryz.ntmps22
    go_wp2_with fail
    go_loop [7, 9] (fun a b => ∃ k n : Nat, a = .int .i64 k ∧ b = .int .i64 n ∧ Hid (k ≤ s.size) ∧ Hid (DgI s.data.toList first V J k n)) (fun a _ => s.size - (intOf a).toNat)
    case atStart => exact ⟨first, 0, rfl, rfl, HFS.out, HD.out⟩
    case round =>
      obtain ⟨k, n, rfl, rfl, HK, HI⟩ := hrel
      have hn18 := HI.out.small
      have hk100 : k ≤ 100000 := Nat.le_trans HK.out HS.out
      by_cases hk : k < s.size
      case neg =>
        have hV := HI.out.end_ (by rw [← size_list]; omega)
        have T3 : decide ((k : Int) < (s.size : Int)) = false := decide_eq_false (by omega)
        have T3' : decide (k < s.size) = false := decide_eq_false hk
        clear hk
        have HV := Lib.hid hV.1
        have HJ := Lib.hid hV.2
        have x9 : IntKind.i64.wrap (0 - (n : Int)) = -(n : Int) := by rw [IntKind.wrap_i64]; omega
        have x9' : IntKind.i64.wrap (-(n : Int)) = -(n : Int) := by rw [IntKind.wrap_i64]; omega
        clear hV hn18 hk100
        go_wp2_with fail
        go_ret2
        exact ⟨by rw [HV.out, HJ.out]; rfl, rfl⟩
      have T3 : decide ((k : Int) < (s.size : Int)) = true := decide_eq_true (by omega)
      have T3' : decide (k < s.size) = true := decide_eq_true hk
      have q0 : (0 : Int) ≤ (k : Int) := by omega
      have q1 : (k : Int) < (s.size : Int) := by omega
      obtain ⟨f18, hf18⟩ : ∃ z, z = first + 18 := ⟨_, rfl⟩
      have x1 : IntKind.i64.wrap ((first : Int) + 18) = (f18 : Int) := by have := HFS.out; have := HS.out; rw [IntKind.wrap_i64]; omega
      by_cases hf : k < f18
      case neg =>
        have hV := HI.out.full (by omega)
        have T4 : decide ((k : Int) < (f18 : Int)) = false := decide_eq_false (by omega)
        have T4' : decide (k < f18) = false := decide_eq_false hf
        clear hf hf18
        have HV := Lib.hid hV.1
        have HJ := Lib.hid hV.2
        have x9 : IntKind.i64.wrap (0 - (n : Int)) = -(n : Int) := by rw [IntKind.wrap_i64]; omega
        have x9' : IntKind.i64.wrap (-(n : Int)) = -(n : Int) := by rw [IntKind.wrap_i64]; omega
        clear hV hn18 hk100
        go_wp2_with fail
        go_ret2
        exact ⟨by rw [HV.out, HJ.out]; rfl, rfl⟩
      have T4 : decide ((k : Int) < (f18 : Int)) = true := decide_eq_true (by omega)
      have T4' : decide (k < f18) = true := decide_eq_true hf
      have HN := Lib.hid fun h => HI.out.next hk (by omega) h
      have HO := Lib.hid fun h => HI.out.other hk h
      obtain ⟨c, hc⟩ : ∃ c : Nat, (s[k]'hk).toNat = c := ⟨_, rfl⟩
      rw [hc] at HN HO
      by_cases hc1 : c < 48
      · have hV := HO.out (.inl hc1)
        have T5 : decide ((48 : Int) ≤ (c : Int)) = false := decide_eq_false (by omega)
        have T5' : decide (48 ≤ c) = false := decide_eq_false (by omega)
        clear hc1 hf hf18 HN HO
        have HV := Lib.hid hV.1
        have HJ := Lib.hid hV.2
        have x9 : IntKind.i64.wrap (0 - (n : Int)) = -(n : Int) := by rw [IntKind.wrap_i64]; omega
        have x9' : IntKind.i64.wrap (-(n : Int)) = -(n : Int) := by rw [IntKind.wrap_i64]; omega
        clear hV hn18 hk100
        go_wp2_with fail
        go_ret2
        exact ⟨by rw [HV.out, HJ.out]; rfl, rfl⟩
      have T5 : decide ((48 : Int) ≤ (c : Int)) = true := decide_eq_true (by omega)
      have T5' : decide (48 ≤ c) = true := decide_eq_true (by omega)
      by_cases hc2 : 57 < c
      · have hV := HO.out (.inr hc2)
        have T6 : decide ((c : Int) ≤ 57) = false := decide_eq_false (by omega)
        have T6' : decide (c ≤ 57) = false := decide_eq_false (by omega)
        clear hc1 hc2 hf hf18 HN HO
        have HV := Lib.hid hV.1
        have HJ := Lib.hid hV.2
        have x9 : IntKind.i64.wrap (0 - (n : Int)) = -(n : Int) := by rw [IntKind.wrap_i64]; omega
        have x9' : IntKind.i64.wrap (-(n : Int)) = -(n : Int) := by rw [IntKind.wrap_i64]; omega
        clear hV hn18 hk100
        go_wp2_with fail
        go_ret2
        exact ⟨by rw [HV.out, HJ.out]; rfl, rfl⟩
      have T6 : decide ((c : Int) ≤ 57) = true := decide_eq_true (by omega)
      have T6' : decide (c ≤ 57) = true := decide_eq_true (by omega)
      obtain ⟨hd, hn⟩ := HN.out (by omega)
      obtain ⟨k', hk'⟩ : ∃ z, z = k + 1 := ⟨_, rfl⟩
      obtain ⟨d, hd'⟩ : ∃ z, z = c - 48 := ⟨_, rfl⟩
      obtain ⟨m, hm⟩ : ∃ z, z = 10 * n := ⟨_, rfl⟩
      obtain ⟨n', hn'⟩ : ∃ z, z = m + d := ⟨_, rfl⟩
      have x2 : IntKind.i64.wrap ((k : Int) + 1) = (k' : Int) := by rw [IntKind.wrap_i64]; omega
      have x3 : IntKind.i64.wrap (10 * (n : Int)) = (m : Int) := by rw [IntKind.wrap_i64]; omega
      have x4 : IntKind.u8.wrap ((c : Int) - 48) = (d : Int) := by unfold IntKind.wrap; simp [IntKind.bits, IntKind.signed]; omega
      have x5 : IntKind.i64.wrap (d : Int) = (d : Int) := by rw [IntKind.wrap_i64]; omega
      have x6 : IntKind.i64.wrap ((m : Int) + (d : Int)) = (n' : Int) := by rw [IntKind.wrap_i64]; omega
      have HI2 : Hid (DgI s.data.toList first V J k' n') := by
        show DgI _ _ _ _ _ _
        rw [hk', hn', hm, hd']
        exact hd
      have HK2 : Hid (k' ≤ s.size) := by show k' ≤ s.size; omega
      have HMS : Hid (s.size - (intOf (Value.int .i64 (k' : Int))).toNat < s.size - (intOf (Value.int .i64 (k : Int))).toNat) := by show _ < _; simp [intOf]; omega
      clear hd hn hk' hd' hm hn' hc1 hc2 hf hf18 HN HO hn18 hk100
      go_wp2_with fail
      go_round
      case rel => exact ⟨k', n', rfl, rfl, HK2.out, HI2.out⟩
      case measure => exact HMS.out
  | false =>
    rw [if_neg (by decide)] at hf
    rw [if_neg (by decide)]
    subst hf
    by_cases hlt : first < s.size
    · have h45 := hng' rfl hlt
      have T0 : decide ((first : Int) < (s.size : Int)) = true := decide_eq_true (by omega)
      have T0' : decide (first < s.size) = true := decide_eq_true hlt
      have k0 : (0 : Int) ≤ (first : Int) := by omega
      have k1 : (first : Int) < (s.size : Int) := by omega
      obtain ⟨c0, hc0⟩ : ∃ c : Nat, (s[first]'hlt).toNat = c := ⟨_, rfl⟩
      have hne : c0 ≠ 45 := fun e => h45 (UInt8.toNat_inj.1 (by rw [hc0, e]; rfl))
      have u1 : ((c0 : Int) == 45) = false := by simp <;> omega
      have u2 : decide (c0 = 45) = false := decide_eq_false hne
      clear hng hng' h0 hfs hs h45 hne hi
      go_enter Tryz.func22, Tryz.ntmps22
      go_wp2_with fail
      go_loop [7, 9] (fun a b => ∃ k n : Nat, a = .int .i64 k ∧ b = .int .i64 n ∧ Hid (k ≤ s.size) ∧ Hid (DgI s.data.toList first V J k n)) (fun a _ => s.size - (intOf a).toNat)
      case atStart => exact ⟨first, 0, rfl, rfl, HFS.out, HD.out⟩
      case round =>
        obtain ⟨k, n, rfl, rfl, HK, HI⟩ := hrel
        have hn18 := HI.out.small
        have hk100 : k ≤ 100000 := Nat.le_trans HK.out HS.out
        by_cases hk : k < s.size
        case neg =>
          have hV := HI.out.end_ (by rw [← size_list]; omega)
          have T3 : decide ((k : Int) < (s.size : Int)) = false := decide_eq_false (by omega)
          have T3' : decide (k < s.size) = false := decide_eq_false hk
          clear hk
          have HV := Lib.hid hV.1
          have HJ := Lib.hid hV.2
          clear hV hn18 hk100
          go_wp2_with fail
          go_ret2
          exact ⟨by rw [HV.out, HJ.out]; rfl, rfl⟩
        have T3 : decide ((k : Int) < (s.size : Int)) = true := decide_eq_true (by omega)
        have T3' : decide (k < s.size) = true := decide_eq_true hk
        have q0 : (0 : Int) ≤ (k : Int) := by omega
        have q1 : (k : Int) < (s.size : Int) := by omega
        obtain ⟨f18, hf18⟩ : ∃ z, z = first + 18 := ⟨_, rfl⟩
        have x1 : IntKind.i64.wrap ((first : Int) + 18) = (f18 : Int) := by have := HFS.out; have := HS.out; rw [IntKind.wrap_i64]; omega
        by_cases hf : k < f18
        case neg =>
          have hV := HI.out.full (by omega)
          have T4 : decide ((k : Int) < (f18 : Int)) = false := decide_eq_false (by omega)
          have T4' : decide (k < f18) = false := decide_eq_false hf
          clear hf hf18
          have HV := Lib.hid hV.1
          have HJ := Lib.hid hV.2
          clear hV hn18 hk100
          go_wp2_with fail
          go_ret2
          exact ⟨by rw [HV.out, HJ.out]; rfl, rfl⟩
        have T4 : decide ((k : Int) < (f18 : Int)) = true := decide_eq_true (by omega)
        have T4' : decide (k < f18) = true := decide_eq_true hf
        have HN := Lib.hid fun h => HI.out.next hk (by omega) h
        have HO := Lib.hid fun h => HI.out.other hk h
        obtain ⟨c, hc⟩ : ∃ c : Nat, (s[k]'hk).toNat = c := ⟨_, rfl⟩
        rw [hc] at HN HO
        by_cases hc1 : c < 48
        · have hV := HO.out (.inl hc1)
          have T5 : decide ((48 : Int) ≤ (c : Int)) = false := decide_eq_false (by omega)
          have T5' : decide (48 ≤ c) = false := decide_eq_false (by omega)
          clear hc1 hf hf18 HN HO
          have HV := Lib.hid hV.1
          have HJ := Lib.hid hV.2
          clear hV hn18 hk100
          go_wp2_with fail
          go_ret2
          exact ⟨by rw [HV.out, HJ.out]; rfl, rfl⟩
        have T5 : decide ((48 : Int) ≤ (c : Int)) = true := decide_eq_true (by omega)
        have T5' : decide (48 ≤ c) = true := decide_eq_true (by omega)
        by_cases hc2 : 57 < c
        · have hV := HO.out (.inr hc2)
          have T6 : decide ((c : Int) ≤ 57) = false := decide_eq_false (by omega)
          have T6' : decide (c ≤ 57) = false := decide_eq_false (by omega)
          clear hc1 hc2 hf hf18 HN HO
          have HV := Lib.hid hV.1
          have HJ := Lib.hid hV.2
          clear hV hn18 hk100
          go_wp2_with fail
          go_ret2
          exact ⟨by rw [HV.out, HJ.out]; rfl, rfl⟩
        have T6 : decide ((c : Int) ≤ 57) = true := decide_eq_true (by omega)
        have T6' : decide (c ≤ 57) = true := decide_eq_true (by omega)
        obtain ⟨hd, hn⟩ := HN.out (by omega)
        obtain ⟨k', hk'⟩ : ∃ z, z = k + 1 := ⟨_, rfl⟩
        obtain ⟨d, hd'⟩ : ∃ z, z = c - 48 := ⟨_, rfl⟩
        obtain ⟨m, hm⟩ : ∃ z, z = 10 * n := ⟨_, rfl⟩
        obtain ⟨n', hn'⟩ : ∃ z, z = m + d := ⟨_, rfl⟩
        have x2 : IntKind.i64.wrap ((k : Int) + 1) = (k' : Int) := by rw [IntKind.wrap_i64]; omega
        have x3 : IntKind.i64.wrap (10 * (n : Int)) = (m : Int) := by rw [IntKind.wrap_i64]; omega
        have x4 : IntKind.u8.wrap ((c : Int) - 48) = (d : Int) := by unfold IntKind.wrap; simp [IntKind.bits, IntKind.signed]; omega
        have x5 : IntKind.i64.wrap (d : Int) = (d : Int) := by rw [IntKind.wrap_i64]; omega
        have x6 : IntKind.i64.wrap ((m : Int) + (d : Int)) = (n' : Int) := by rw [IntKind.wrap_i64]; omega
        have HI2 : Hid (DgI s.data.toList first V J k' n') := by
          show DgI _ _ _ _ _ _
          rw [hk', hn', hm, hd']
          exact hd
        have HK2 : Hid (k' ≤ s.size) := by show k' ≤ s.size; omega
        have HMS : Hid (s.size - (intOf (Value.int .i64 (k' : Int))).toNat < s.size - (intOf (Value.int .i64 (k : Int))).toNat) := by show _ < _; simp [intOf]; omega
        clear hd hn hk' hd' hm hn' hc1 hc2 hf hf18 HN HO hn18 hk100
        go_wp2_with fail
        go_round
        case rel => exact ⟨k', n', rfl, rfl, HK2.out, HI2.out⟩
        case measure => exact HMS.out
    · have T0 : decide ((first : Int) < (s.size : Int)) = false := decide_eq_false (by omega)
      have T0' : decide (first < s.size) = false := decide_eq_false hlt
      clear hng hng' h0 hfs hs hi hlt
      go_enter Tryz.func22, Tryz.ntmps22
      go_wp2_with fail
      go_loop [7, 9] (fun a b => ∃ k n : Nat, a = .int .i64 k ∧ b = .int .i64 n ∧ Hid (k ≤ s.size) ∧ Hid (DgI s.data.toList first V J k n)) (fun a _ => s.size - (intOf a).toNat)
      case atStart => exact ⟨first, 0, rfl, rfl, HFS.out, HD.out⟩
      case round =>
        obtain ⟨k, n, rfl, rfl, HK, HI⟩ := hrel
        have hn18 := HI.out.small
        have hk100 : k ≤ 100000 := Nat.le_trans HK.out HS.out
        by_cases hk : k < s.size
        case neg =>
          have hV := HI.out.end_ (by rw [← size_list]; omega)
          have T3 : decide ((k : Int) < (s.size : Int)) = false := decide_eq_false (by omega)
          have T3' : decide (k < s.size) = false := decide_eq_false hk
          clear hk
          have HV := Lib.hid hV.1
          have HJ := Lib.hid hV.2
          clear hV hn18 hk100
          go_wp2_with fail
          go_ret2
          exact ⟨by rw [HV.out, HJ.out]; rfl, rfl⟩
        have T3 : decide ((k : Int) < (s.size : Int)) = true := decide_eq_true (by omega)
        have T3' : decide (k < s.size) = true := decide_eq_true hk
        have q0 : (0 : Int) ≤ (k : Int) := by omega
        have q1 : (k : Int) < (s.size : Int) := by omega
        obtain ⟨f18, hf18⟩ : ∃ z, z = first + 18 := ⟨_, rfl⟩
        have x1 : IntKind.i64.wrap ((first : Int) + 18) = (f18 : Int) := by have := HFS.out; have := HS.out; rw [IntKind.wrap_i64]; omega
        by_cases hf : k < f18
        case neg =>
          have hV := HI.out.full (by omega)
          have T4 : decide ((k : Int) < (f18 : Int)) = false := decide_eq_false (by omega)
          have T4' : decide (k < f18) = false := decide_eq_false hf
          clear hf hf18
          have HV := Lib.hid hV.1
          have HJ := Lib.hid hV.2
          clear hV hn18 hk100
          go_wp2_with fail
          go_ret2
          exact ⟨by rw [HV.out, HJ.out]; rfl, rfl⟩
        have T4 : decide ((k : Int) < (f18 : Int)) = true := decide_eq_true (by omega)
        have T4' : decide (k < f18) = true := decide_eq_true hf
        have HN := Lib.hid fun h => HI.out.next hk (by omega) h
        have HO := Lib.hid fun h => HI.out.other hk h
        obtain ⟨c, hc⟩ : ∃ c : Nat, (s[k]'hk).toNat = c := ⟨_, rfl⟩
        rw [hc] at HN HO
        by_cases hc1 : c < 48
        · have hV := HO.out (.inl hc1)
          have T5 : decide ((48 : Int) ≤ (c : Int)) = false := decide_eq_false (by omega)
          have T5' : decide (48 ≤ c) = false := decide_eq_false (by omega)
          clear hc1 hf hf18 HN HO
          have HV := Lib.hid hV.1
          have HJ := Lib.hid hV.2
          clear hV hn18 hk100
          go_wp2_with fail
          go_ret2
          exact ⟨by rw [HV.out, HJ.out]; rfl, rfl⟩
        have T5 : decide ((48 : Int) ≤ (c : Int)) = true := decide_eq_true (by omega)
        have T5' : decide (48 ≤ c) = true := decide_eq_true (by omega)
        by_cases hc2 : 57 < c
        · have hV := HO.out (.inr hc2)
          have T6 : decide ((c : Int) ≤ 57) = false := decide_eq_false (by omega)
          have T6' : decide (c ≤ 57) = false := decide_eq_false (by omega)
          clear hc1 hc2 hf hf18 HN HO
          have HV := Lib.hid hV.1
          have HJ := Lib.hid hV.2
          clear hV hn18 hk100
          go_wp2_with fail
          go_ret2
          exact ⟨by rw [HV.out, HJ.out]; rfl, rfl⟩
        have T6 : decide ((c : Int) ≤ 57) = true := decide_eq_true (by omega)
        have T6' : decide (c ≤ 57) = true := decide_eq_true (by omega)
        obtain ⟨hd, hn⟩ := HN.out (by omega)
        obtain ⟨k', hk'⟩ : ∃ z, z = k + 1 := ⟨_, rfl⟩
        obtain ⟨d, hd'⟩ : ∃ z, z = c - 48 := ⟨_, rfl⟩
        obtain ⟨m, hm⟩ : ∃ z, z = 10 * n := ⟨_, rfl⟩
        obtain ⟨n', hn'⟩ : ∃ z, z = m + d := ⟨_, rfl⟩
        have x2 : IntKind.i64.wrap ((k : Int) + 1) = (k' : Int) := by rw [IntKind.wrap_i64]; omega
        have x3 : IntKind.i64.wrap (10 * (n : Int)) = (m : Int) := by rw [IntKind.wrap_i64]; omega
        have x4 : IntKind.u8.wrap ((c : Int) - 48) = (d : Int) := by unfold IntKind.wrap; simp [IntKind.bits, IntKind.signed]; omega
        have x5 : IntKind.i64.wrap (d : Int) = (d : Int) := by rw [IntKind.wrap_i64]; omega
        have x6 : IntKind.i64.wrap ((m : Int) + (d : Int)) = (n' : Int) := by rw [IntKind.wrap_i64]; omega
        have HI2 : Hid (DgI s.data.toList first V J k' n') := by
          show DgI _ _ _ _ _ _
          rw [hk', hn', hm, hd']
          exact hd
        have HK2 : Hid (k' ≤ s.size) := by show k' ≤ s.size; omega
        have HMS : Hid (s.size - (intOf (Value.int .i64 (k' : Int))).toNat < s.size - (intOf (Value.int .i64 (k : Int))).toNat) := by show _ < _; simp [intOf]; omega
        clear hd hn hk' hd' hm hn' hc1 hc2 hf hf18 HN HO hn18 hk100
        go_wp2_with fail
        go_round
        case rel => exact ⟨k', n', rfl, rfl, HK2.out, HI2.out⟩
        case measure => exact HMS.out
/-- The reference's number: what it reads from a place on. -/
theorem rnumT (s : ByteArray) (hs : s.size ≤ 100000) (i : Nat) (hi : i ≤ s.size) : ∃ (v : Int) (j : Nat), i ≤ j ∧ j ≤ s.size ∧ (∀ x r, s.data.toList.drop i = Lib.itoa x ++ r → near x → NoDig r → v = x ∧ j = i + (Lib.itoa x).length) ∧ near v ∧
    ∀ w, Calls Tryz.prog 22 #[.string s, .int .i64 (i : Int)] w fun e w' => e = .returned (.tuple #[.int .i64 v, .int .i64 (j : Int)]) ∧ w = w' := by
  obtain ⟨ng, hng⟩ : ∃ ng : Bool, ng = true ↔ ∃ h : i < s.size, s[i] = 45 := by
    by_cases h : ∃ h : i < s.size, s[i] = 45
    · exact ⟨true, by simp [h]⟩
    · exact ⟨false, by simp [h]⟩
  have hng1 : ng = true → ∃ h : i < s.size, s[i] = 45 := hng.1
  have hng2 : ng = false → ∀ h : i < s.size, s[i] ≠ 45 := fun h1 h2 h3 => by rw [hng.2 ⟨h2, h3⟩] at h1; cases h1
  obtain ⟨first, hf⟩ : ∃ f, f = if ng = true then i + 1 else i := ⟨_, rfl⟩
  have hfs : i ≤ first ∧ first ≤ s.size := by
    rw [hf]
    by_cases h : ng = true
    · rw [if_pos h]; obtain ⟨h1, _⟩ := hng1 h; omega
    · rw [if_neg h]; omega
  obtain ⟨p, hp⟩ : ∃ p, p = rd 18 (s.data.toList.drop first) 0 := ⟨_, rfl⟩
  have hb := rd_bound 18 (s.data.toList.drop first) 0 0 (by decide)
  rw [← hp, pow18', List.length_drop, ← size_list] at hb
  have hD : DgI s.data.toList first p.1 (first + p.2) first 0 := ⟨0, by omega, rfl, by decide, by omega, by rw [Nat.sub_zero, ← hp, show first + p.2 - first = p.2 from by omega]⟩
  refine ⟨if ng = true then -(p.1 : Int) else (p.1 : Int), first + p.2, by omega, by omega, fun x r hx hn hr => ?_, ?_, fun w => rnumT0 s hs i hi ng first p.1 (first + p.2) hng1 hng2 hf hD hfs.2 w⟩
  · have h1 := hn.1
    have h2 := hn.2
    by_cases hv : x < 0
    · rw [itoa_neg' hv] at hx ⊢
      have hlt : i < s.size := by
        rcases Nat.lt_or_ge i s.size with h | h
        · exact h
        · rw [List.drop_of_length_le (by rw [← size_list]; exact h)] at hx; simp at hx
      rw [byte_at s i hlt] at hx
      simp only [List.cons_append, List.cons.injEq] at hx
      have ht := hng.2 ⟨hlt, hx.1⟩
      rw [if_pos ht] at hf ⊢
      rw [hf, hx.2, rd_dec hr (by omega)] at hp
      rw [hp, hf]
      simp
      omega
    · rw [itoa_pos' hv] at hx ⊢
      have hnf : ng ≠ true := fun h => by
        obtain ⟨h3, h4⟩ := hng1 h
        rw [byte_at s i h3, h4] at hx
        obtain ⟨c, r', e, hc1, hc2⟩ := dec_head (u := x.toNat)
        rw [e] at hx
        simp at hx
        have := hx.1
        rw [← this] at hc1
        revert hc1; decide
      rw [if_neg hnf] at hf ⊢
      rw [hf, hx, rd_dec hr (by omega)] at hp
      rw [hp, hf]
      simp
      omega
  · have := hb.1
    unfold near
    split <;> omega
end Go.Proofs.YtapfmbnppeonkaaGreatDoor

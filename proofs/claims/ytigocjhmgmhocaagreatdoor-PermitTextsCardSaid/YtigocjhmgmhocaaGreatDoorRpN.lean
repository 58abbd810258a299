/- The reference's number. -/
import Derived.Test.YtigocjhmgmhocaaGreatDoorRpA
import Derived.Test.YtigocjhmgmhocaaGreatDoorPxT
namespace Go.Proofs.YtigocjhmgmhocaaGreatDoor
open Go.RowKit
set_option linter.unusedVariables false
set_option linter.unusedSimpArgs false

def val : List UInt8 → Nat → Nat
  | [], n => n
  | c :: r, n => val r (10 * n + (c.toNat - 48))
theorem val_snoc (l : List UInt8) (c : UInt8) : ∀ n, val (l ++ [c]) n = 10 * val l n + (c.toNat - 48) := by
  induction l with
  | nil => intro n; rfl
  | cons a l ih => intro n; exact ih _
theorem val_dec : ∀ u : Nat, val (Lib.decDigits u) 0 = u := by
  intro u
  induction u using Nat.strongRecOn with
  | _ u ih =>
    by_cases hu : u < 10
    · rw [Lib.decDigits_one hu]
      simp only [val, digit_nat hu]
      omega
    · rw [Lib.decDigits, dif_neg hu, val_snoc, ih (u / 10) (by omega), digit_nat (by omega : u % 10 < 10)]
      omega
theorem byte_of {c : UInt8} {k : Nat} (h : c.toNat = 48 + k) : UInt8.ofNat (48 + k) = c := by rw [← h]; exact UInt8.ofNat_toNat
theorem dec_ne (u : Nat) : Lib.decDigits u ≠ [] := by
  intro e
  have := congrArg List.length e
  rw [Lib.decDigits_length] at this
  unfold Lib.nDigits at this
  split at this <;> simp at this
theorem dec_head39 : ∀ u : Nat, 1 ≤ u → (Lib.decDigits u).head? ≠ some 48 := by
  intro u
  induction u using Nat.strongRecOn with
  | _ u ih =>
    intro h1
    by_cases hu : u < 10
    · rw [Lib.decDigits_one hu]
      intro e
      simp only [List.head?_cons, Option.some.injEq] at e
      have := congrArg UInt8.toNat e
      rw [digit_nat hu] at this
      have h2 : (48 : UInt8).toNat = 48 := rfl
      omega
    · rw [Lib.decDigits, dif_neg hu]
      have := ih (u / 10) (by omega) (by omega)
      cases e : Lib.decDigits (u / 10) with
      | nil => exact absurd e (dec_ne _)
      | cons a t => rw [e] at this; simpa using this
theorem dec_val : ∀ (n : Nat) (l : List UInt8), l.length = n + 1 → (∀ c, c ∈ l → 48 ≤ c.toNat ∧ c.toNat ≤ 57) → (n = 0 ∨ l.head? ≠ some 48) → Lib.decDigits (val l 0) = l := by
  intro n
  induction n with
  | zero =>
    intro l hl hd _
    match l, hl with
    | [c], _ =>
      have hc := hd c (by simp)
      have e : val [c] 0 = c.toNat - 48 := by simp [val]
      rw [e, Lib.decDigits_one (by omega), byte_of (c := c) (by omega)]
  | succ n ih =>
    intro l hl hd hh
    have hne : l ≠ [] := fun e => by rw [e] at hl; simp at hl
    obtain ⟨m, c, rfl⟩ : ∃ m c, l = m ++ [c] := ⟨l.dropLast, l.getLast hne, (List.dropLast_concat_getLast hne).symm⟩
    have hm : m.length = n + 1 := by simp at hl; exact hl
    have hhm : m.head? ≠ some 48 := by
      rcases hh with h | h
      · omega
      · cases m with
        | nil => simp at hm
        | cons a t => simpa using h
    have h3 := ih m hm (fun x hx => hd x (by simp [hx])) (.inr hhm)
    have hc := hd c (by simp)
    have hv : 1 ≤ val m 0 := by
      rcases Nat.eq_zero_or_pos (val m 0) with h | h
      · rw [h, Lib.decDigits_one (by omega)] at h3
        rw [← h3] at hhm
        exact absurd rfl hhm
      · exact h
    rw [val_snoc, Lib.decDigits, dif_neg (by omega)]
    rw [show (10 * val m 0 + (c.toNat - 48)) / 10 = val m 0 from by omega, show (10 * val m 0 + (c.toNat - 48)) % 10 = c.toNat - 48 from by omega, h3, byte_of (c := c) (by omega)]
theorem val_lt : ∀ (l : List UInt8), (∀ c, c ∈ l → 48 ≤ c.toNat ∧ c.toNat ≤ 57) → ∀ n t, n < 10 ^ t → val l n < 10 ^ (t + l.length) := by
  intro l
  induction l with
  | nil => intro _ n t h; exact h
  | cons c l ih =>
    intro hd n t h
    have hc := hd c (by simp)
    have := ih (fun x hx => hd x (by simp [hx])) (10 * n + (c.toNat - 48)) (t + 1) (by rw [Nat.pow_succ]; omega)
    rw [List.length_cons, show t + (l.length + 1) = t + 1 + l.length from by omega]
    exact this
/-- The bytes so far are digits. -/
structure RnI (s : ByteArray) (i n : Nat) : Prop where
  le : i ≤ s.size
  dg : ∀ c, c ∈ s.data.toList.take i → 48 ≤ c.toNat ∧ c.toNat ≤ 57
  vl : n = val (s.data.toList.take i) 0
theorem RnI.small {s : ByteArray} {i n : Nat} (h : RnI s i n) (hi : i ≤ 18) : n < 1000000000000000000 := by
  have h1 := val_lt _ h.dg 0 0 (by decide)
  rw [← h.vl, Nat.zero_add] at h1
  have h2 : (s.data.toList.take i).length ≤ 18 := by rw [List.length_take]; omega
  have h3 := Nat.pow_le_pow_right (n := 10) (by decide) h2
  have h4 : (10 : Nat) ^ 18 = 1000000000000000000 := by decide
  omega
theorem RnI.small17 {s : ByteArray} {i n : Nat} (h : RnI s i n) (hi : i ≤ 17) : n < 100000000000000000 := by
  have h1 := val_lt _ h.dg 0 0 (by decide)
  rw [← h.vl, Nat.zero_add] at h1
  have h2 : (s.data.toList.take i).length ≤ 17 := by rw [List.length_take]; omega
  have h3 := Nat.pow_le_pow_right (n := 10) (by decide) h2
  have h4 : (10 : Nat) ^ 17 = 100000000000000000 := by decide
  omega
theorem take_snoc {s : ByteArray} {i : Nat} (hi : i < s.size) : s.data.toList.take (i + 1) = s.data.toList.take i ++ [s[i]] := by
  have e3 := size_lst s
  rw [List.take_add_one]
  congr 1
  rw [List.getElem?_eq_getElem (by omega)]
  rfl
theorem RnI.next {s : ByteArray} {i n : Nat} (h : RnI s i n) (hi : i < s.size) (h1 : 48 ≤ (s[i]).toNat) (h2 : (s[i]).toNat ≤ 57) : RnI s (i + 1) (10 * n + ((s[i]).toNat - 48)) := by
  refine ⟨hi, ?_, ?_⟩
  · rw [take_snoc hi]
    intro c hc
    rcases List.mem_append.1 hc with h3 | h3
    · exact h.dg c h3
    · rw [List.mem_singleton.1 h3]; exact ⟨h1, h2⟩
  · rw [take_snoc hi, val_snoc, ← h.vl]
/-- What the reference's number takes. -/
theorem numw_digits {s : ByteArray} {v : Int} (h : NumW s v) : (∀ c, c ∈ s.data.toList → 48 ≤ c.toNat ∧ c.toNat ≤ 57) ∧ 1 ≤ s.size ∧ s.size ≤ 18 ∧ (s.size = 1 ∨ s.data.toList.head? ≠ some 48) ∧ v = (val s.data.toList 0 : Nat) := by
  have h0 := h.1.1
  have e := h.2
  rw [itoa_pos' (by omega)] at e
  have hl := itoa_18 h.1
  have hl2 := itoa_pos_len v
  rw [← h.2, ← size_lst] at hl hl2
  refine ⟨fun c hc => dec_byte v.toNat c (by rw [← e]; exact hc), hl2, hl, ?_, ?_⟩
  · by_cases h1 : 1 ≤ v.toNat
    · right; rw [e]; exact dec_head39 _ h1
    · left
      have h2 : v.toNat = 0 := by omega
      rw [h2, Lib.decDigits_one (by omega)] at e
      rw [size_lst, e]; rfl
  · rw [e, val_dec]; omega
theorem numw_of {s : ByteArray} (hd : ∀ c, c ∈ s.data.toList → 48 ≤ c.toNat ∧ c.toNat ≤ 57) (h1 : 1 ≤ s.size) (h2 : s.size ≤ 18) (h3 : s.size = 1 ∨ s.data.toList.head? ≠ some 48) : NumW s (val s.data.toList 0 : Nat) := by
  have e3 := size_lst s
  have hv := val_lt _ hd 0 0 (by decide)
  rw [Nat.zero_add] at hv
  have h4 := Nat.pow_le_pow_right (n := 10) (by decide) (show s.data.toList.length ≤ 18 by omega)
  have h5 : (10 : Nat) ^ 18 = 1000000000000000000 := by decide
  refine ⟨⟨by omega, by omega⟩, ?_⟩
  rw [itoa_pos' (by omega), show ((val s.data.toList 0 : Nat) : Int).toNat = val s.data.toList 0 from by omega]
  exact (dec_val (s.size - 1) _ (by omega) hd (by rcases h3 with h | h
                                                  · left; omega
                                                  · right; exact h)).symm
theorem RnI.all {s : ByteArray} {i n : Nat} (h : RnI s i n) (hi : i = s.size) : (∀ c, c ∈ s.data.toList → 48 ≤ c.toNat ∧ c.toNat ≤ 57) ∧ n = val s.data.toList 0 := by
  have e3 := size_lst s
  have h1 := h.dg
  have h2 := h.vl
  rw [List.take_of_length_le (by omega)] at h1 h2
  exact ⟨h1, h2⟩
def rnV (s : ByteArray) (v : Int) (f : Bool) : Prop := (f = true → NumW s v) ∧ (f = false → v = 0 ∧ ∀ x, ¬ NumW s x)
inductive RnPost (s : ByteArray) (e : Ending) : Prop
  | mk (v : Int) (f : Bool) : e = .returned (.tuple #[.int .i64 v, .bool f]) → rnV s v f → RnPost s e
theorem head_at {s : ByteArray} (h : 0 < s.size) : s.data.toList.head? = some (s[0]'h) := by
  have e3 := size_lst s
  rw [List.head?_eq_getElem?, List.getElem?_eq_getElem (by omega)]
  rfl
set_option maxRecDepth 100000 in
set_option maxHeartbeats 4000000 in
theorem rnum (s : ByteArray) (w : World) (hs : s.size ≤ 100000) : Calls Tryz.prog 50 #[.string s] w fun e w' => RnPost s e ∧ w = w' := by
  by_cases h1 : s.size < 1
  case pos =>
    have HN : Hid (rnV s 0 false) := ⟨fun h => (by cases h), fun _ => ⟨rfl, fun x hx => by have := (numw_digits hx).2.1; omega⟩⟩
    have T1 : decide ((s.size : Int) < 1) = true := decide_eq_true (by omega)
    have T1' : decide (s.size < 1) = true := decide_eq_true h1
    clear h1 hs
    go_enter Tryz.func50, Tryz.ntmps50
    go_wp2_with fail
    go_ret2
    exact ⟨.mk 0 false rfl HN.out, rfl⟩
  have T1 : decide ((s.size : Int) < 1) = false := decide_eq_false (by omega)
  have T1' : decide (s.size < 1) = false := decide_eq_false h1
  by_cases h2 : 18 < s.size
  case pos =>
    have HN : Hid (rnV s 0 false) := ⟨fun h => (by cases h), fun _ => ⟨rfl, fun x hx => by have := (numw_digits hx).2.2.1; omega⟩⟩
    have T2 : decide ((18 : Int) < (s.size : Int)) = true := decide_eq_true (by omega)
    have T2' : decide (18 < s.size) = true := decide_eq_true h2
    clear h1 h2 hs
    go_enter Tryz.func50, Tryz.ntmps50
    go_wp2_with fail
    go_ret2
    exact ⟨.mk 0 false rfl HN.out, rfl⟩
  have T2 : decide ((18 : Int) < (s.size : Int)) = false := decide_eq_false (by omega)
  have T2' : decide (18 < s.size) = false := decide_eq_false h2
  have p0 : 0 < s.size := by omega
  have p1 : (0 : Int) < (s.size : Int) := by omega
  obtain ⟨d, hd⟩ : ∃ d : Nat, (s[0]'p0).toNat = d := ⟨_, rfl⟩
  have hhd := head_at p0
  by_cases h3 : 1 < s.size ∧ d = 48
  case pos =>
    obtain ⟨h3, h4⟩ := h3
    have HN : Hid (rnV s 0 false) := ⟨fun h => (by cases h), fun _ => ⟨rfl, fun x hx => by
      rcases (numw_digits hx).2.2.2.1 with h | h
      · omega
      · apply h
        rw [hhd]
        congr 1
        apply UInt8.toNat_inj.1
        rw [hd, h4]; rfl⟩⟩
    have T3 : decide ((1 : Int) < (s.size : Int)) = true := decide_eq_true (by omega)
    have T3' : decide (1 < s.size) = true := decide_eq_true h3
    subst h4
    clear h1 h2 h3 hs hhd
    go_enter Tryz.func50, Tryz.ntmps50
    go_wp2_with fail
    go_ret2
    exact ⟨.mk 0 false rfl HN.out, rfl⟩
  have HH : Hid (s.size = 1 ∨ s.data.toList.head? ≠ some 48) := by
    by_cases h : 1 < s.size
    · right
      rw [hhd]
      intro e
      refine h3 ⟨h, ?_⟩
      rw [← hd, Option.some.inj e]; rfl
    · left; omega
  have HS : Hid (1 ≤ s.size ∧ s.size ≤ 18) := by show _ ∧ _; omega
  have key : ∀ (b : Bool), b = (decide (1 < s.size)) → (b = true → (d == 48) = false ∧ ((d : Int) == 48) = false ∧ decide (d = 48) = false) → Calls Tryz.prog 50 #[.string s] w fun e w' => RnPost s e ∧ w = w' := by
    intro b hb hb2
    have body : True := trivial
    cases b with
    | false =>
      have T3' : decide (1 < s.size) = false := hb.symm
      have T3 : decide ((1 : Int) < (s.size : Int)) = false := decide_eq_false (by have := of_decide_eq_false T3'; omega)
      clear h1 h2 h3 hs hhd hb hb2 body
      go_enter Tryz.func50, Tryz.ntmps50
      go_wp2_with fail
      go_loop [4, 5] (fun a b => ∃ n i : Nat, a = .int .i64 n ∧ b = .int .i64 i ∧ Hid (RnI s i n)) (fun _ b => s.size - (intOf b).toNat)
      case atStart => exact ⟨0, 0, rfl, rfl, ⟨Nat.zero_le _, by simp, rfl⟩⟩
      case round =>
        obtain ⟨n, i, rfl, rfl, HI⟩ := hrel
        have hle := HI.out.le
        have hS := HS.out
        have hn18 := HI.out.small (by omega)
        by_cases hk : i < s.size
        case neg =>
          have T5 : decide ((i : Int) < (s.size : Int)) = false := decide_eq_false (by omega)
          have T5' : decide (i < s.size) = false := decide_eq_false hk
          obtain ⟨ha1, ha2⟩ := HI.out.all (by omega)
          have HN : Hid (rnV s (n : Int) true) := ⟨fun _ => by rw [ha2]; exact numw_of ha1 hS.1 hS.2 HH.out, fun h => (by cases h)⟩
          clear hk hle hS hn18 ha1 ha2
          go_wp2_with fail
          go_ret2
          exact ⟨.mk (n : Int) true rfl HN.out, rfl⟩
        have T5 : decide ((i : Int) < (s.size : Int)) = true := decide_eq_true (by omega)
        have T5' : decide (i < s.size) = true := decide_eq_true hk
        have q0 : (0 : Int) ≤ (i : Int) := by omega
        have hn17 := HI.out.small17 (by omega)
        have q1 : (i : Int) < (s.size : Int) := by omega
        obtain ⟨c, hc⟩ : ∃ c : Nat, (s[i]'hk).toNat = c := ⟨_, rfl⟩
        have hbad : (c < 48 ∨ 57 < c) → rnV s 0 false := fun hb => ⟨fun h => (by cases h), fun _ => ⟨rfl, fun x hx => by
          have := (numw_digits hx).1 (s[i]'hk) (by
            have e3 := size_lst s
            have : s[i]'hk = s.data.toList[i]'(by omega) := rfl
            rw [this]; exact List.getElem_mem _)
          omega⟩⟩
        by_cases hc1 : c < 48
        · have HN := Lib.hid (hbad (.inl hc1))
          have T6 : decide ((c : Int) < 48) = true := decide_eq_true (by omega)
          have T6' : decide (c < 48) = true := decide_eq_true hc1
          clear hc1 hle hS hn18 hn17 hbad
          go_wp2_with fail
          go_ret2
          exact ⟨.mk 0 false rfl HN.out, rfl⟩
        have T6 : decide ((c : Int) < 48) = false := decide_eq_false (by omega)
        have T6' : decide (c < 48) = false := decide_eq_false hc1
        by_cases hc2 : 57 < c
        · have HN := Lib.hid (hbad (.inr hc2))
          have T7 : decide ((57 : Int) < (c : Int)) = true := decide_eq_true (by omega)
          have T7' : decide (57 < c) = true := decide_eq_true hc2
          clear hc1 hc2 hle hS hn18 hn17 hbad
          go_wp2_with fail
          go_ret2
          exact ⟨.mk 0 false rfl HN.out, rfl⟩
        have T7 : decide ((57 : Int) < (c : Int)) = false := decide_eq_false (by omega)
        have T7' : decide (57 < c) = false := decide_eq_false hc2
        have HNX := HI.out.next hk (by omega) (by omega)
        rw [hc] at HNX
        obtain ⟨dd, hdd⟩ : ∃ dd : Nat, dd = c - 48 := ⟨_, rfl⟩
        rw [← hdd] at HNX
        obtain ⟨n', hn'⟩ : ∃ z, z = 10 * n + dd := ⟨_, rfl⟩
        obtain ⟨i', hi'⟩ : ∃ z, z = i + 1 := ⟨_, rfl⟩
        rw [← hn', ← hi'] at HNX
        have HNX := Lib.hid HNX
        have x1 : IntKind.i64.wrap ((i : Int) + 1) = (i' : Int) := by rw [IntKind.wrap_i64]; omega
        have x2 : IntKind.i64.wrap (10 * (n : Int)) = 10 * (n : Int) := by rw [IntKind.wrap_i64]; omega
        have x4 : IntKind.u8.wrap ((c : Int) - 48) = (dd : Int) := by unfold IntKind.wrap; simp [IntKind.bits, IntKind.signed]; omega
        have x5 : IntKind.i64.wrap (dd : Int) = (dd : Int) := by rw [IntKind.wrap_i64]; omega
        have x6 : IntKind.i64.wrap (10 * (n : Int) + (dd : Int)) = (n' : Int) := by rw [IntKind.wrap_i64]; omega
        have HMS : Hid (s.size - (intOf (Value.int .i64 (i' : Int))).toNat < s.size - (intOf (Value.int .i64 (i : Int))).toNat) := by show _ < _; simp [intOf]; omega
        clear hc1 hc2 hle hS hn18 hn17 hbad hdd hn' hi'
        go_wp2_with fail
        go_round
        case rel => exact ⟨n', i', rfl, rfl, HNX⟩
        case measure => exact HMS.out
    | true =>
      have T3' : decide (1 < s.size) = true := hb.symm
      have T3 : decide ((1 : Int) < (s.size : Int)) = true := decide_eq_true (by have := of_decide_eq_true T3'; omega)
      obtain ⟨u1, u2, u3⟩ := hb2 rfl
      clear h1 h2 h3 hs hhd hb hb2 body
      go_enter Tryz.func50, Tryz.ntmps50
      go_wp2_with fail
      go_loop [4, 5] (fun a b => ∃ n i : Nat, a = .int .i64 n ∧ b = .int .i64 i ∧ Hid (RnI s i n)) (fun _ b => s.size - (intOf b).toNat)
      case atStart => exact ⟨0, 0, rfl, rfl, ⟨Nat.zero_le _, by simp, rfl⟩⟩
      case round =>
        obtain ⟨n, i, rfl, rfl, HI⟩ := hrel
        have hle := HI.out.le
        have hS := HS.out
        have hn18 := HI.out.small (by omega)
        by_cases hk : i < s.size
        case neg =>
          have T5 : decide ((i : Int) < (s.size : Int)) = false := decide_eq_false (by omega)
          have T5' : decide (i < s.size) = false := decide_eq_false hk
          obtain ⟨ha1, ha2⟩ := HI.out.all (by omega)
          have HN : Hid (rnV s (n : Int) true) := ⟨fun _ => by rw [ha2]; exact numw_of ha1 hS.1 hS.2 HH.out, fun h => (by cases h)⟩
          clear hk hle hS hn18 ha1 ha2
          go_wp2_with fail
          go_ret2
          exact ⟨.mk (n : Int) true rfl HN.out, rfl⟩
        have T5 : decide ((i : Int) < (s.size : Int)) = true := decide_eq_true (by omega)
        have T5' : decide (i < s.size) = true := decide_eq_true hk
        have q0 : (0 : Int) ≤ (i : Int) := by omega
        have hn17 := HI.out.small17 (by omega)
        have q1 : (i : Int) < (s.size : Int) := by omega
        obtain ⟨c, hc⟩ : ∃ c : Nat, (s[i]'hk).toNat = c := ⟨_, rfl⟩
        have hbad : (c < 48 ∨ 57 < c) → rnV s 0 false := fun hb => ⟨fun h => (by cases h), fun _ => ⟨rfl, fun x hx => by
          have := (numw_digits hx).1 (s[i]'hk) (by
            have e3 := size_lst s
            have : s[i]'hk = s.data.toList[i]'(by omega) := rfl
            rw [this]; exact List.getElem_mem _)
          omega⟩⟩
        by_cases hc1 : c < 48
        · have HN := Lib.hid (hbad (.inl hc1))
          have T6 : decide ((c : Int) < 48) = true := decide_eq_true (by omega)
          have T6' : decide (c < 48) = true := decide_eq_true hc1
          clear hc1 hle hS hn18 hn17 hbad
          go_wp2_with fail
          go_ret2
          exact ⟨.mk 0 false rfl HN.out, rfl⟩
        have T6 : decide ((c : Int) < 48) = false := decide_eq_false (by omega)
        have T6' : decide (c < 48) = false := decide_eq_false hc1
        by_cases hc2 : 57 < c
        · have HN := Lib.hid (hbad (.inr hc2))
          have T7 : decide ((57 : Int) < (c : Int)) = true := decide_eq_true (by omega)
          have T7' : decide (57 < c) = true := decide_eq_true hc2
          clear hc1 hc2 hle hS hn18 hn17 hbad
          go_wp2_with fail
          go_ret2
          exact ⟨.mk 0 false rfl HN.out, rfl⟩
        have T7 : decide ((57 : Int) < (c : Int)) = false := decide_eq_false (by omega)
        have T7' : decide (57 < c) = false := decide_eq_false hc2
        have HNX := HI.out.next hk (by omega) (by omega)
        rw [hc] at HNX
        obtain ⟨dd, hdd⟩ : ∃ dd : Nat, dd = c - 48 := ⟨_, rfl⟩
        rw [← hdd] at HNX
        obtain ⟨n', hn'⟩ : ∃ z, z = 10 * n + dd := ⟨_, rfl⟩
        obtain ⟨i', hi'⟩ : ∃ z, z = i + 1 := ⟨_, rfl⟩
        rw [← hn', ← hi'] at HNX
        have HNX := Lib.hid HNX
        have x1 : IntKind.i64.wrap ((i : Int) + 1) = (i' : Int) := by rw [IntKind.wrap_i64]; omega
        have x2 : IntKind.i64.wrap (10 * (n : Int)) = 10 * (n : Int) := by rw [IntKind.wrap_i64]; omega
        have x4 : IntKind.u8.wrap ((c : Int) - 48) = (dd : Int) := by unfold IntKind.wrap; simp [IntKind.bits, IntKind.signed]; omega
        have x5 : IntKind.i64.wrap (dd : Int) = (dd : Int) := by rw [IntKind.wrap_i64]; omega
        have x6 : IntKind.i64.wrap (10 * (n : Int) + (dd : Int)) = (n' : Int) := by rw [IntKind.wrap_i64]; omega
        have HMS : Hid (s.size - (intOf (Value.int .i64 (i' : Int))).toNat < s.size - (intOf (Value.int .i64 (i : Int))).toNat) := by show _ < _; simp [intOf]; omega
        clear hc1 hc2 hle hS hn18 hn17 hbad hdd hn' hi'
        go_wp2_with fail
        go_round
        case rel => exact ⟨n', i', rfl, rfl, HNX⟩
        case measure => exact HMS.out
  refine key _ rfl fun h => ?_
  have h48 : ¬ d = 48 := fun e => h3 ⟨of_decide_eq_true h, e⟩
  exact ⟨by simp [h48], by simp <;> omega, decide_eq_false h48⟩
end Go.Proofs.YtigocjhmgmhocaaGreatDoor

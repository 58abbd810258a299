/- The text of a table, as a list of bytes; the words of a text; that the text tells the table. Plain mathematics. -/
import Derived.Test.YthbdeaglncoanaaGreatDoorNumeral
namespace Go.Proofs.YthbdeaglncoanaaGreatDoor
open Go
set_option linter.unusedVariables false
set_option linter.unusedSimpArgs false

/-- The words of a text: what lies between its spaces. -/
def wds : List UInt8 → List (List UInt8)
  | [] => [[]]
  | c :: r => if c = 32 then [] :: wds r else (match wds r with | [] => [[c]] | h :: t => (c :: h) :: t)
theorem wds_ne (l : List UInt8) : wds l ≠ [] := by
  induction l with
  | nil => simp [wds]
  | cons c r ih =>
    unfold wds
    split
    · simp
    · split <;> simp
theorem wds_plain {l : List UInt8} (h : (32 : UInt8) ∉ l) : wds l = [l] := by
  induction l with
  | nil => rfl
  | cons c r ih =>
    have hc : ¬ c = 32 := fun e => h (by simp [e])
    unfold wds
    rw [if_neg hc, ih (fun e => h (by simp [e]))]
theorem wds_cut (a b : List UInt8) : wds (a ++ 32 :: b) = wds a ++ wds b := by
  induction a with
  | nil => simp [wds]
  | cons c r ih =>
    by_cases hc : c = 32
    · simp only [List.cons_append, wds, if_pos hc, ih]
    · simp only [List.cons_append, wds, if_neg hc, ih]
      cases e : wds r with
      | nil => exact absurd e (wds_ne r)
      | cons h t => simp
theorem wds_first {a b : List UInt8} (h : (32 : UInt8) ∉ a) : wds (a ++ 32 :: b) = a :: wds b := by rw [wds_cut, wds_plain h]; rfl
theorem wds_sub (l : List UInt8) : ∀ x, x ∈ wds l → x.length ≤ l.length := by
  induction l with
  | nil => intro x hx; simp [wds] at hx; simp [hx]
  | cons c r ih =>
    intro x hx
    unfold wds at hx
    split at hx
    · rcases List.mem_cons.1 hx with rfl | h
      · simp
      · have := ih x h; simp; omega
    · cases e : wds r with
      | nil => exact absurd e (wds_ne r)
      | cons h t =>
        rw [e] at hx ih
        rcases List.mem_cons.1 hx with rfl | h'
        · have := ih h (by simp); simp; omega
        · have := ih x (by simp [h']); simp; omega
/-- The numeral's bytes. -/
theorem dec_byte : ∀ (u : Nat) (c : UInt8), c ∈ Lib.decDigits u → 48 ≤ c.toNat ∧ c.toNat ≤ 57 := by
  intro u
  induction u using Nat.strongRecOn with
  | _ u ih =>
    intro c hc
    by_cases hu : u < 10
    · rw [Lib.decDigits_one hu] at hc
      have e := List.mem_singleton.1 hc
      rw [e, digit_nat hu]; omega
    · rw [Lib.decDigits, dif_neg hu] at hc
      rcases List.mem_append.1 hc with h | h
      · exact ih _ (by omega) c h
      · have e := List.mem_singleton.1 h
        rw [e, digit_nat (by omega)]; omega
theorem itoa_byte {v : Int} {c : UInt8} (h : c ∈ Lib.itoa v) : c = 45 ∨ (48 ≤ c.toNat ∧ c.toNat ≤ 57) := by
  by_cases hv : v < 0
  · rw [itoa_neg' hv] at h
    rcases List.mem_cons.1 h with h | h
    · exact .inl h
    · exact .inr (dec_byte _ c h)
  · rw [itoa_pos' hv] at h
    exact .inr (dec_byte _ c h)
theorem itoa_no {v : Int} {c : UInt8} (h1 : c ≠ 45) (h2 : c.toNat < 48 ∨ 57 < c.toNat) : c ∉ Lib.itoa v := fun h => by
  rcases itoa_byte h with e | e
  · exact h1 e
  · omega
theorem itoa_no32 (v : Int) : (32 : UInt8) ∉ Lib.itoa v := itoa_no (by decide) (.inl (by decide))
theorem itoa_no58 (v : Int) : (58 : UInt8) ∉ Lib.itoa v := itoa_no (by decide) (.inr (by decide))
/-- The text of a knot, of the first knots. -/
def ktx (x y : Int) : List UInt8 := Lib.itoa x ++ 58 :: Lib.itoa y
theorem ktx_no32 (x y : Int) : (32 : UInt8) ∉ ktx x y := by
  unfold ktx
  intro h
  rcases List.mem_append.1 h with h | h
  · exact itoa_no32 _ h
  · rcases List.mem_cons.1 h with h | h
    · revert h; decide
    · exact itoa_no32 _ h
def txL (X Y : Nat → Int) : Nat → List UInt8
  | 0 => []
  | i + 1 => (if 0 < i then txL X Y i ++ [32] else txL X Y i) ++ ktx (X i) (Y i)
def kws (X Y : Nat → Int) (n : Nat) : List (List UInt8) := (List.range n).map fun k => ktx (X k) (Y k)
theorem kws_succ (X Y : Nat → Int) (n : Nat) : kws X Y (n + 1) = kws X Y n ++ [ktx (X n) (Y n)] := by unfold kws; rw [List.range_succ, List.map_append]; rfl
theorem kws_len (X Y : Nat → Int) (n : Nat) : (kws X Y n).length = n := by simp [kws]
theorem kws_get (X Y : Nat → Int) {n k : Nat} (h : k < n) : (kws X Y n)[k]? = some (ktx (X k) (Y k)) := by simp [kws, h]
theorem wds_tx (X Y : Nat → Int) : ∀ n, wds (txL X Y (n + 1)) = kws X Y (n + 1)
  | 0 => by
    show wds ((if 0 < 0 then _ else txL X Y 0) ++ ktx (X 0) (Y 0)) = _
    rw [if_neg (by omega)]
    show wds ([] ++ ktx (X 0) (Y 0)) = _
    rw [List.nil_append, wds_plain (ktx_no32 _ _)]
    rfl
  | n + 1 => by
    show wds ((if 0 < n + 1 then txL X Y (n + 1) ++ [32] else txL X Y (n + 1)) ++ ktx (X (n + 1)) (Y (n + 1))) = _
    rw [if_pos (by omega), List.append_assoc]
    show wds (txL X Y (n + 1) ++ 32 :: ktx (X (n + 1)) (Y (n + 1))) = _
    rw [wds_cut, wds_tx X Y n, wds_plain (ktx_no32 _ _), kws_succ X Y (n + 1)]
/-- Numbers that both sides read. -/
def near (v : Int) : Prop := -1000000000000000000 < v ∧ v < 1000000000000000000
theorem itoa_inj {a b : Int} (ha : near a) (hb : near b) (h : Lib.itoa a = Lib.itoa b) : a = b := by
  have e1 := atoi_itoa ha.1 ha.2
  have e2 := atoi_itoa hb.1 hb.2
  rw [h, e2] at e1
  exact (Lib.NumEnd.ok.inj e1).symm
theorem cut58 {a b c d : List UInt8} (ha : (58 : UInt8) ∉ a) (hc : (58 : UInt8) ∉ c) (h : a ++ 58 :: b = c ++ 58 :: d) : a = c ∧ b = d := by
  induction a generalizing c with
  | nil =>
    cases c with
    | nil => simp at h; exact ⟨rfl, h⟩
    | cons x c => simp at h; exact absurd (by simp [h.1]) hc
  | cons x a ih =>
    cases c with
    | nil => simp at h; exact absurd (by simp [h.1]) ha
    | cons y c =>
      simp at h
      obtain ⟨e1, e2⟩ := ih (fun g => ha (by simp [g])) (fun g => hc (by simp [g])) h.2
      exact ⟨by rw [h.1, e1], e2⟩
theorem ktx_inj {x y x' y' : Int} (h1 : near x) (h2 : near y) (h3 : near x') (h4 : near y') (h : ktx x y = ktx x' y') : x = x' ∧ y = y' := by
  obtain ⟨e1, e2⟩ := cut58 (itoa_no58 _) (itoa_no58 _) h
  exact ⟨itoa_inj h1 h3 e1, itoa_inj h2 h4 e2⟩
/-- The text tells the table. -/
theorem tx_inj {X Y X' Y' : Nat → Int} {n n' : Nat} (h : txL X Y (n + 1) = txL X' Y' (n' + 1)) (h1 : ∀ k, k < n + 1 → near (X k) ∧ near (Y k)) (h2 : ∀ k, k < n' + 1 → near (X' k) ∧ near (Y' k)) : n = n' ∧ ∀ k, k < n + 1 → X k = X' k ∧ Y k = Y' k := by
  have e := wds_tx X Y n
  rw [h, wds_tx] at e
  have el : n = n' := by have := congrArg List.length e; rw [kws_len, kws_len] at this; omega
  subst el
  refine ⟨rfl, fun k hk => ?_⟩
  have e2 := congrArg (fun l => l[k]?) e
  simp only [kws_get _ _ hk, Option.some.injEq] at e2
  obtain ⟨a, b⟩ := ktx_inj (h2 k hk).1 (h2 k hk).2 (h1 k hk).1 (h1 k hk).2 e2
  exact ⟨a.symm, b.symm⟩
theorem tx_congr {X Y X' Y' : Nat → Int} : ∀ {n : Nat}, (∀ k, k < n → X k = X' k ∧ Y k = Y' k) → txL X Y n = txL X' Y' n
  | 0, _ => rfl
  | n + 1, h => by
    show (if 0 < n then txL X Y n ++ [32] else txL X Y n) ++ ktx (X n) (Y n) = (if 0 < n then txL X' Y' n ++ [32] else txL X' Y' n) ++ ktx (X' n) (Y' n)
    rw [tx_congr (fun k hk => h k (by omega)), (h n (by omega)).1, (h n (by omega)).2]
theorem itoa_len {v : Int} (h : near v) : (Lib.itoa v).length ≤ 19 := by
  by_cases hv : v < 0
  · have := h.1
    rw [itoa_neg' hv, List.length_cons, Lib.decDigits_length]
    have := nDigits_le 18 v.natAbs (by decide) (by rw [pow18]; omega)
    omega
  · have := h.2
    rw [itoa_pos' hv, Lib.decDigits_length]
    have := nDigits_le 18 v.toNat (by decide) (by rw [pow18]; omega)
    omega
theorem tx_len {X Y : Nat → Int} : ∀ {n : Nat}, (∀ k, k < n → near (X k) ∧ near (Y k)) → (txL X Y n).length ≤ 40 * n
  | 0, _ => Nat.le_refl _
  | n + 1, h => by
    have h1 := tx_len (X := X) (Y := Y) (n := n) (fun k hk => h k (by omega))
    have h2 := itoa_len (h n (by omega)).1
    have h3 := itoa_len (h n (by omega)).2
    show ((if 0 < n then txL X Y n ++ [32] else txL X Y n) ++ ktx (X n) (Y n)).length ≤ _
    unfold ktx
    split <;> simp only [List.length_append, List.length_cons, List.length_nil] <;> omega
end Go.Proofs.YthbdeaglncoanaaGreatDoor

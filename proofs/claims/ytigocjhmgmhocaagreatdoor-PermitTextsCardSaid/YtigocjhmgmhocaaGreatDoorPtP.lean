/- The text of permits, as a list of bytes; the lines of a text; what Parse of permits answers. Plain. -/
import Derived.Test.YtigocjhmgmhocaaGreatDoorPrsP
import Derived.Test.YtigocjhmgmhocaaGreatDoorNam
namespace Go.Proofs.YtigocjhmgmhocaaGreatDoor
open Go
set_option linter.unusedVariables false
set_option linter.unusedSimpArgs false

structure Pmr where
  nm : ByteArray
  nd : ByteArray
  ev : Int
  vol : Int
  tot : Int
/-- The bytes of a name. -/
theorem wlen_all {l : List UInt8} (h : wlen l = l.length) : ∀ c, c ∈ l → wchB (c.toNat : Int) = true := by
  unfold wlen at h
  intro c hc
  have e : l.takeWhile (fun c => wchB (c.toNat : Int)) = l := (List.takeWhile_prefix _).eq_of_length h
  have ha := List.all_takeWhile (p := fun c : UInt8 => wchB (c.toNat : Int)) (l := l)
  rw [e] at ha
  exact List.all_eq_true.1 ha c hc
theorem name_bytes {l : List UInt8} (h : nameB l = true) : (32 : UInt8) ∉ l ∧ (10 : UInt8) ∉ l ∧ 0 < l.length ∧ l.length ≤ 20 := by
  unfold nameB at h
  simp only [Bool.and_eq_true, decide_eq_true_eq] at h
  obtain ⟨⟨⟨h1, h2⟩, _⟩, h4⟩ := h
  refine ⟨fun hc => ?_, fun hc => ?_, h1, h2⟩
  · have := wlen_all h4 _ hc
    revert this; decide
  · have := wlen_all h4 _ hc
    revert this; decide
def numP (v : Int) : Prop := 0 ≤ v ∧ v < 1000000000000000000
theorem numP.near {v : Int} (h : numP v) : near v := ⟨by have := h.1; omega, h.2⟩
structure formP (p : Pmr) : Prop where
  nm : nameB p.nm.data.toList = true
  nd : nameB p.nd.data.toList = true
  ev : numP p.ev
  vol : numP p.vol
  tot : numP p.tot
/-- The line of a permit, without its end; the text of permits. -/
def pln (p : Pmr) : List UInt8 := p.nm.data.toList ++ 32 :: (p.nd.data.toList ++ 32 :: (Lib.itoa p.ev ++ 32 :: (Lib.itoa p.vol ++ 32 :: Lib.itoa p.tot)))
def ptx (L : List Pmr) : List UInt8 := L.flatMap fun p => pln p ++ [10]
theorem ptx_snoc (L : List Pmr) (p : Pmr) : ptx (L ++ [p]) = ptx L ++ (pln p ++ [10]) := by unfold ptx; rw [List.flatMap_append]; simp
theorem itoa_no10 (v : Int) : (10 : UInt8) ∉ Lib.itoa v := itoa_no (by decide) (.inl (by decide))
theorem wds_pln {p : Pmr} (h : formP p) : wds (pln p) = [p.nm.data.toList, p.nd.data.toList, Lib.itoa p.ev, Lib.itoa p.vol, Lib.itoa p.tot] := by
  unfold pln
  rw [wds_first (name_bytes h.nm).1, wds_first (name_bytes h.nd).1, wds_first (itoa_no32 _), wds_first (itoa_no32 _), wds_plain (itoa_no32 _)]
theorem pln_no10 {p : Pmr} (h : formP p) : (10 : UInt8) ∉ pln p := by
  unfold pln
  simp only [List.mem_append, List.mem_cons]
  rintro (h1 | h1 | h1 | h1 | h1 | h1 | h1 | h1 | h1)
  · exact (name_bytes h.nm).2.1 h1
  · revert h1; decide
  · exact (name_bytes h.nd).2.1 h1
  · revert h1; decide
  · exact itoa_no10 _ h1
  · revert h1; decide
  · exact itoa_no10 _ h1
  · revert h1; decide
  · exact itoa_no10 _ h1
theorem bytes_eq {a b : ByteArray} (h : a.data.toList = b.data.toList) : a = b := by
  obtain ⟨⟨x⟩⟩ := a; obtain ⟨⟨y⟩⟩ := b
  have : x = y := h
  rw [this]
theorem pln_inj {p q : Pmr} (hp : formP p) (hq : formP q) (h : pln p = pln q) : p = q := by
  have e := wds_pln hp
  rw [h, wds_pln hq] at e
  simp only [List.cons.injEq, and_true] at e
  obtain ⟨e1, e2, e3, e4, e5⟩ := e
  have a1 := bytes_eq e1
  have a2 := bytes_eq e2
  have a3 := itoa_inj hq.ev.near hp.ev.near e3
  have a4 := itoa_inj hq.vol.near hp.vol.near e4
  have a5 := itoa_inj hq.tot.near hp.tot.near e5
  cases p; cases q
  simp only at a1 a2 a3 a4 a5
  subst a1 a2 a3 a4 a5
  rfl
/-- The lines of a text, each with its end. -/
def rl : List UInt8 → List (List UInt8)
  | [] => []
  | c :: r => if c = 10 then [10] :: rl r else (match rl r with | [] => [[c]] | h :: t => (c :: h) :: t)
theorem rl_ne {l : List UInt8} (h : l ≠ []) : rl l ≠ [] := by
  cases l with
  | nil => exact absurd rfl h
  | cons c r =>
    unfold rl
    split
    · simp
    · split <;> simp
theorem rl_cut {a : List UInt8} (b : List UInt8) (h : (10 : UInt8) ∉ a) : rl (a ++ 10 :: b) = (a ++ [10]) :: rl b := by
  induction a with
  | nil => simp [rl]
  | cons c a ih =>
    have hc : ¬ c = 10 := fun e => h (by simp [e])
    simp only [List.cons_append, rl, if_neg hc, ih (fun e => h (by simp [e]))]
theorem rl_one {a : List UInt8} (h : (10 : UInt8) ∉ a) (hne : a ≠ []) : rl a = [a] := by
  induction a with
  | nil => exact absurd rfl hne
  | cons c a ih =>
    have hc : ¬ c = 10 := fun e => h (by simp [e])
    cases a with
    | nil => simp only [rl, if_neg hc]
    | cons d a =>
      have := ih (fun e => h (by simp [e])) (by simp)
      unfold rl
      rw [if_neg hc, this]
theorem rl_join (l : List UInt8) : (rl l).flatten = l := by
  induction l with
  | nil => rfl
  | cons c r ih =>
    unfold rl
    split
    · rename_i h; rw [List.flatten_cons, ih, h]; rfl
    · cases e : rl r with
      | nil =>
        rw [e] at ih
        simp at ih
        simp [ih]
      | cons h t =>
        rw [e] at ih
        simp at ih ⊢
        exact ih
theorem rl_len (l : List UInt8) : (rl l).length ≤ l.length := by
  induction l with
  | nil => simp [rl]
  | cons c r ih =>
    unfold rl
    split
    · simp; omega
    · cases e : rl r with
      | nil => simp
      | cons h t => rw [e] at ih; simp at ih ⊢; omega
def pll (L : List Pmr) : List (List UInt8) := L.map fun p => pln p ++ [10]
theorem rl_ptx : ∀ {L : List Pmr}, (∀ p, p ∈ L → formP p) → rl (ptx L) = pll L
  | [], _ => rfl
  | p :: L, h => by
    have e : ptx (p :: L) = pln p ++ 10 :: ptx L := by unfold ptx; simp
    rw [e, rl_cut _ (pln_no10 (h p (by simp))), rl_ptx (fun q hq => h q (by simp [hq]))]
    rfl
theorem pll_join (L : List Pmr) : (pll L).flatten = ptx L := by
  unfold pll ptx
  rw [List.flatMap_def]
theorem pll_inj : ∀ {L M : List Pmr}, (∀ p, p ∈ L → formP p) → (∀ p, p ∈ M → formP p) → pll L = pll M → L = M
  | [], [], _, _, _ => rfl
  | [], q :: M, _, _, h => by simp [pll] at h
  | p :: L, [], _, _, h => by simp [pll] at h
  | p :: L, q :: M, hL, hM, h => by
    simp only [pll, List.map_cons, List.cons.injEq] at h
    have e1 := pln_inj (hL p (by simp)) (hM q (by simp)) (List.append_cancel_right h.1)
    rw [e1, pll_inj (fun x hx => hL x (by simp [hx])) (fun x hx => hM x (by simp [hx])) h.2]
/-- A permit is valid. -/
def okP (p : Pmr) : Prop := validB p.nm p.nd p.ev p.vol p.tot = true
theorem okP.form {p : Pmr} (h : okP p) : formP p := by
  obtain ⟨h1, h2, h3⟩ := validB_true.1 h
  unfold limR at h3
  exact ⟨h1, h2, ⟨by omega, by omega⟩, ⟨by omega, by omega⟩, ⟨by omega, by omega⟩⟩
/-- What Parse answers, of a text that is not too long: permits, the number of a bad line, an error. -/
inductive PmIs (s : List UInt8) : List Pmr → Nat → Int → Prop
  | form (k : Nat) (L : List Pmr) (x : List UInt8) (r : List (List UInt8)) : (∀ p, p ∈ L → formP p) → rl s = pll L ++ x :: r → (∀ p, formP p → x ≠ pln p ++ [10]) → k = L.length + 1 → PmIs s [] k 7
  | arg (L : List Pmr) : (∀ p, p ∈ L → formP p) → rl s = pll L → ¬ (∀ p, p ∈ L → okP p) → PmIs s [] 0 1
  | ok (L : List Pmr) : (∀ p, p ∈ L → formP p) → rl s = pll L → (∀ p, p ∈ L → okP p) → PmIs s L 0 0
theorem pll_stop {L M : List Pmr} {x : List UInt8} {r : List (List UInt8)} (hL : ∀ p, p ∈ L → formP p) (hM : ∀ p, p ∈ M → formP p) (hx : ∀ p, formP p → x ≠ pln p ++ [10]) (h : pll L ++ x :: r = pll M) : False := by
  have hm : x ∈ pll M := by rw [← h]; simp
  unfold pll at hm
  obtain ⟨p, hp, e⟩ := List.mem_map.1 hm
  exact hx p (hM p hp) e.symm
theorem pll_first : ∀ {L M : List Pmr} {x y : List UInt8} {r r' : List (List UInt8)}, (∀ p, p ∈ L → formP p) → (∀ p, p ∈ M → formP p) → (∀ p, formP p → x ≠ pln p ++ [10]) → (∀ p, formP p → y ≠ pln p ++ [10]) → pll L ++ x :: r = pll M ++ y :: r' → L.length = M.length
  | [], [], _, _, _, _, _, _, _, _, _ => rfl
  | [], q :: M, x, _, _, _, _, hM, hx, _, h => by
    simp only [pll, List.map_nil, List.nil_append, List.map_cons, List.cons_append, List.cons.injEq] at h
    exact absurd h.1 (hx q (hM q (by simp)))
  | p :: L, [], _, y, _, _, hL, _, _, hy, h => by
    simp only [pll, List.map_nil, List.nil_append, List.map_cons, List.cons_append, List.cons.injEq] at h
    exact absurd h.1.symm (hy p (hL p (by simp)))
  | p :: L, q :: M, _, _, _, _, hL, hM, hx, hy, h => by
    simp only [pll, List.map_cons, List.cons_append, List.cons.injEq] at h
    have := pll_first (fun x hx => hL x (by simp [hx])) (fun x hx => hM x (by simp [hx])) hx hy h.2
    simp [this]
theorem PmIs.uniq {s : List UInt8} {L L' : List Pmr} {k k' : Nat} {e e' : Int} (h : PmIs s L k e) (h' : PmIs s L' k' e') : L = L' ∧ k = k' ∧ e = e' := by
  cases h with
  | form k M x r a b c d =>
    cases h' with
    | form k' M' x' r' a' b' c' d' => exact ⟨rfl, by rw [d, d', pll_first a a' c c' (b.symm.trans b')], rfl⟩
    | arg M' a' b' c' => exact (pll_stop a a' c (b.symm.trans b')).elim
    | ok _ a' b' c' => exact (pll_stop a a' c (b.symm.trans b')).elim
  | arg M a b c =>
    cases h' with
    | form k' M' x' r' a' b' c' d' => exact (pll_stop a' a c' (b'.symm.trans b)).elim
    | arg _ _ _ _ => exact ⟨rfl, rfl, rfl⟩
    | ok _ a' b' c' => exact absurd (pll_inj a' a (b'.symm.trans b) ▸ c') c
  | ok _ a b c =>
    cases h' with
    | form k' M' x' r' a' b' c' d' => exact (pll_stop a' a c' (b'.symm.trans b)).elim
    | arg M' a' b' c' => exact absurd (pll_inj a a' (b.symm.trans b') ▸ c) c'
    | ok _ a' b' c' => exact ⟨pll_inj a a' (b.symm.trans b'), rfl, rfl⟩
end Go.Proofs.YtigocjhmgmhocaaGreatDoor

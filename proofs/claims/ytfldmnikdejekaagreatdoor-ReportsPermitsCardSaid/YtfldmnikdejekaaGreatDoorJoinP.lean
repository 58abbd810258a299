/- Rows joined are the words joined; the first word of a row would not have fitted before. Plain mathematics. -/
import Derived.Test.YtfldmnikdejekaaGreatDoorRowP
import Derived.Lib.Join
import Derived.Lib.Bytealg
namespace Go.Proofs.YtfldmnikdejekaaGreatDoor
open Go.RowKit
set_option linter.unusedVariables false
set_option linter.unusedSimpArgs false

/-- The strings, joined by spaces. -/
def jn (R : List ByteArray) : List UInt8 := Lib.join (R.map (·.data.toList)) [32]
theorem jn_one (s : ByteArray) : jn [s] = s.data.toList := by unfold jn; exact Lib.join_one _ _
theorem jn_snoc {R : List ByteArray} (h : R ≠ []) (s : ByteArray) : jn (R ++ [s]) = jn R ++ 32 :: s.data.toList := by
  cases R with
  | nil => exact absurd rfl h
  | cons a r =>
    unfold jn
    simp only [List.cons_append, List.map_cons, List.map_append, List.map_nil, Lib.join_cons, Lib.joinTail, List.flatten_append, List.map_cons]
    simp
theorem set_last (I : List ByteArray) (l y : ByteArray) : (I ++ [l]).set I.length y = I ++ [y] := by simp
theorem split_last {R : List ByteArray} (h : R ≠ []) : ∃ I l, R = I ++ [l] ∧ R.length - 1 = I.length ∧ R.getD (R.length - 1) ByteArray.empty = l := by
  refine ⟨R.dropLast, R.getLast h, (List.dropLast_concat_getLast h).symm, by simp, ?_⟩
  have hp : 0 < R.length := List.length_pos_iff.2 h
  rw [List.getLast_eq_getElem, List.getD_eq_getElem?_getD, List.getElem?_eq_getElem (by omega)]
  rfl
theorem jn_put (W : Int) {R : List ByteArray} (h : R ≠ []) (s : ByteArray) : jn (putR W R s) = jn R ++ 32 :: s.data.toList := by
  unfold putR
  rw [if_neg h]
  split
  · obtain ⟨I, l, hR, hl, hg⟩ := split_last h
    rw [hg, hl]
    conv => lhs; rw [hR, set_last]
    by_cases hI : I = []
    · subst hI
      rw [hR]
      simp only [List.nil_append]
      rw [jn_one, jn_one, ByteArray.data_append, ByteArray.data_append]
      simp [sp]
    · rw [hR, jn_snoc hI, jn_snoc hI, ByteArray.data_append, ByteArray.data_append]
      simp [sp]
  · exact jn_snoc h s
def wl (X : Nat → ByteArray) (n : Nat) : List ByteArray := (List.range n).map X
theorem wl_succ (X : Nat → ByteArray) (n : Nat) : wl X (n + 1) = wl X n ++ [X n] := by unfold wl; rw [List.range_succ, List.map_append]; rfl
theorem rows_ne {W : Int} {X : Nat → ByteArray} {n : Nat} (h : 0 < n) : rowsTo W X n ≠ [] := by
  intro e
  have := (rows_len W X n).2 h
  rw [e] at this
  simp at this
/-- Rows joined are the words joined. -/
theorem jn_rows (W : Int) (X : Nat → ByteArray) : ∀ n, jn (rowsTo W X n) = jn (wl X n)
  | 0 => rfl
  | n + 1 => by
    rw [wl_succ]
    show jn (putR W (rowsTo W X n) (X n)) = _
    rcases Nat.eq_zero_or_pos n with h | h
    · subst h; rfl
    · have hw : wl X n ≠ [] := by
        intro e
        have : (wl X n).length = n := by simp [wl]
        rw [e] at this; simp at this; omega
      rw [jn_put W (rows_ne h), jn_snoc hw, jn_rows W X n]
theorem jn_len (X : Nat → ByteArray) (M : Nat) : ∀ n, (∀ i, i < n → (X i).size ≤ M) → (jn (wl X n)).length ≤ n * (M + 1)
  | 0, _ => by simp [jn, wl, Lib.join]
  | n + 1, h => by
    have ih := jn_len X M n (fun i hi => h i (by omega))
    have hl := h n (by omega)
    rw [size_list] at hl
    rw [wl_succ]
    by_cases hw : wl X n = []
    · rw [hw, List.nil_append, jn_one, Nat.add_mul]
      omega
    · rw [jn_snoc hw, List.length_append, List.length_cons, Nat.add_mul]
      omega

/-- A word: no space in it. -/
def NoSp (l : List UInt8) : Prop := ∀ c ∈ l, c ≠ 32
theorem nosp_of {s : ByteArray} (h : ¬ badAt s) : NoSp s.data.toList := by
  intro c hc e
  obtain ⟨j, hj, hg⟩ := List.mem_iff_getElem.1 hc
  apply h
  refine .inr ⟨j, by rw [size_list]; exact hj, .inl ?_⟩
  unfold byt
  rw [List.getD_eq_getElem?_getD, List.getElem?_eq_getElem hj]
  show (s.data.toList[j]).toNat < 33
  rw [hg, e]; decide
/-- A row begins with a word. -/
def Begins (row : List UInt8) (word : List UInt8) : Prop := NoSp word ∧ ∃ rest, row = word ++ rest ∧ (rest = [] ∨ ∃ r, rest = 32 :: r)
def RowInv (W : Int) (R : List ByteArray) : Prop := ∀ k, k < R.length → ∃ word, Begins (R.getD k ByteArray.empty).data.toList word ∧ (0 < k → W < ((R.getD (k - 1) ByteArray.empty).size : Int) + 1 + (word.length : Int))
theorem getD_snoc_lt {R : List ByteArray} {s : ByteArray} {k : Nat} (h : k < R.length) : (R ++ [s]).getD k ByteArray.empty = R.getD k ByteArray.empty := by
  rw [List.getD_eq_getElem?_getD, List.getD_eq_getElem?_getD, List.getElem?_append_left h]
theorem getD_snoc_at {R : List ByteArray} {s : ByteArray} : (R ++ [s]).getD R.length ByteArray.empty = s := by
  rw [List.getD_eq_getElem?_getD, List.getElem?_append_right (Nat.le_refl _)]; simp
theorem put_inv {W : Int} {R : List ByteArray} {s : ByteArray} (h : RowInv W R) (hs : ¬ badAt s) : RowInv W (putR W R s) := by
  have hw : Begins s.data.toList s.data.toList := ⟨nosp_of hs, [], by simp, .inl rfl⟩
  unfold putR
  by_cases h0 : R = []
  · rw [if_pos h0]
    intro k hk
    have : k = 0 := by simpa using hk
    subst this
    exact ⟨_, hw, fun h => absurd h (by omega)⟩
  · rw [if_neg h0]
    obtain ⟨I, l, hR, hl, hg⟩ := split_last h0
    have hRl : R.length = I.length + 1 := by rw [hR]; simp
    by_cases hf : ((R.getD (R.length - 1) ByteArray.empty).size : Int) + 1 + (s.size : Int) ≤ W
    · rw [if_pos hf, hg, hl]
      have key : R.set I.length (l ++ (sp ++ s)) = I ++ [l ++ (sp ++ s)] := by rw [hR, set_last]
      rw [key]
      intro k hk
      have hk : k < R.length := by rw [hRl]; simpa using hk
      rcases Nat.lt_or_ge k I.length with g | g
      · obtain ⟨word, hb, hn⟩ := h k hk
        refine ⟨word, ?_, fun hk0 => ?_⟩
        · rw [getD_snoc_lt g]
          rw [hR, getD_snoc_lt g] at hb
          exact hb
        · have := hn hk0
          rw [hR, getD_snoc_lt (by omega)] at this
          rw [getD_snoc_lt (by omega)]
          exact this
      · have hk2 : k = I.length := by omega
        subst hk2
        obtain ⟨word, ⟨hb1, rest, hb2, hb3⟩, hn⟩ := h I.length hk
        rw [hR, getD_snoc_at] at hb2
        refine ⟨word, ⟨hb1, rest ++ 32 :: s.data.toList, ?_, ?_⟩, fun hk0 => ?_⟩
        · rw [getD_snoc_at, ByteArray.data_append, ByteArray.data_append]
          simp [sp, hb2]
        · rcases hb3 with rfl | ⟨r, rfl⟩
          · exact .inr ⟨_, rfl⟩
          · exact .inr ⟨_, rfl⟩
        · have := hn hk0
          rw [hR, getD_snoc_lt (by omega)] at this
          rw [getD_snoc_lt (by omega)]
          exact this
    · rw [if_neg hf]
      intro k hk
      rw [List.length_append] at hk
      have hk' : k < R.length + 1 := hk
      rcases Nat.lt_or_ge k R.length with g | g
      · obtain ⟨word, hb, hn⟩ := h k g
        refine ⟨word, by rw [getD_snoc_lt g]; exact hb, fun hk0 => ?_⟩
        rw [getD_snoc_lt (by omega)]
        exact hn hk0
      · have hk2 : k = R.length := by omega
        subst hk2
        refine ⟨_, by rw [getD_snoc_at]; exact hw, fun hk0 => ?_⟩
        rw [getD_snoc_lt (by omega), ← size_list]
        omega
theorem rows_inv {W : Int} {X : Nat → ByteArray} : ∀ n, (∀ i, i < n → ¬ badAt (X i)) → RowInv W (rowsTo W X n)
  | 0, _ => fun k hk => absurd hk (by simp [rowsTo])
  | n + 1, h => put_inv (rows_inv n (fun i hi => h i (by omega))) (h n (by omega))
theorem index_word : ∀ (word rest : List UInt8), NoSp word → Lib.indexByte (word ++ rest) 32 = if rest = [] then -1 else if rest.head? = some 32 then (word.length : Int) else Lib.indexByte (word ++ rest) 32
  | [], [], _ => rfl
  | [], c :: r, _ => by
    rw [if_neg (by simp)]
    split
    · rename_i h
      have : c = 32 := Option.some.inj h
      subst this
      rfl
    · rfl
  | w :: word, rest, h => by
    have hw : ¬ w = 32 := h w List.mem_cons_self
    have ih := index_word word rest (fun c hc => h c (List.mem_cons_of_mem _ hc))
    have e : Lib.indexByte (w :: word ++ rest) 32 = if Lib.indexByte (word ++ rest) 32 == -1 then -1 else Lib.indexByte (word ++ rest) 32 + 1 := by
      show (if w == 32 then (0 : Int) else _) = _
      rw [if_neg (by simpa using hw)]
      rfl
    by_cases h1 : rest = []
    · rw [if_pos h1] at ih ⊢
      rw [e, ih]; rfl
    · rw [if_neg h1] at ih ⊢
      by_cases h2 : rest.head? = some 32
      · rw [if_pos h2] at ih ⊢
        rw [e, ih, if_neg (by simp <;> omega)]
        simp
      · rw [if_neg h2]
/-- Where the first space of a row stands. -/
theorem index_begins {row word : List UInt8} (h : Begins row word) : (Lib.indexByte row 32 = -1 ∧ row = word) ∨ (Lib.indexByte row 32 = (word.length : Int) ∧ word.length < row.length) := by
  obtain ⟨h1, rest, rfl, h2⟩ := h
  rcases h2 with rfl | ⟨r, rfl⟩
  · have e := index_word word [] h1
    rw [if_pos rfl] at e
    exact .inl ⟨e, by simp⟩
  · have e := index_word word (32 :: r) h1
    rw [if_neg (List.cons_ne_nil _ _), if_pos (show (32 :: r : List UInt8).head? = some 32 from rfl)] at e
    exact .inr ⟨e, by simp⟩
end Go.Proofs.YtfldmnikdejekaaGreatDoor

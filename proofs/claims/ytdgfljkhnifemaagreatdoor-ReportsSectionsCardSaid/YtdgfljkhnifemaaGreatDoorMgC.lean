/- Merged texts of these proofs: JoinP, Jn, Line. -/
import Derived.Test.YtdgfljkhnifemaaGreatDoorMgB
import Derived.Lib.Join
import Derived.Lib.Bytealg
import Derived.Test.YtdgfljkhnifemaaGreatDoorShelfJoin
import Derived.Lib.IndexBytes
namespace Go.Proofs.YtdgfljkhnifemaaGreatDoor
open Go.RowKit
set_option linter.unusedVariables false
set_option linter.unusedSimpArgs false

/-- The strings, joined by spaces. -/
def jn (R : List ByteArray) : List UInt8 := Lib.join (R.map (·.data.toList)) [32]
theorem jn_one (s : ByteArray) : jn [s] = s.data.toList := by unfold jn; exact Lib.join_one _ _
theorem jn_snoc {R : List ByteArray} (h : R ≠ []) (s : ByteArray) : jn (R ++ [s]) = jn R ++ 32 :: s.data.toList := by
  cases R with
  | nil => exact absurd rfl h
  | cons a r =>
    unfold jn
    simp only [List.cons_append, List.map_cons, List.map_append, List.map_nil, Lib.join_cons, Lib.joinTail, List.flatten_append, List.map_cons]
    simp
def wl (X : Nat → ByteArray) (n : Nat) : List ByteArray := (List.range n).map X
theorem wl_succ (X : Nat → ByteArray) (n : Nat) : wl X (n + 1) = wl X n ++ [X n] := by unfold wl; rw [List.range_succ, List.map_append]; rfl
theorem jn_len (X : Nat → ByteArray) (M : Nat) : ∀ n, (∀ i, i < n → (X i).size ≤ M) → (jn (wl X n)).length ≤ n * (M + 1)
  | 0, _ => by simp [jn, wl, Lib.join]
  | n + 1, h => by
    have ih := jn_len X M n (fun i hi => h i (by omega))
    have hl := h n (by omega)
    rw [size_list] at hl
    rw [wl_succ]
    by_cases hw : wl X n = []
    · rw [hw, List.nil_append, jn_one, Nat.add_mul]
      omega
    · rw [jn_snoc hw, List.length_append, List.length_cons, Nat.add_mul]
      omega

/-- A word: no space in it. -/
def NoSp (l : List UInt8) : Prop := ∀ c ∈ l, c ≠ 32
theorem index_word : ∀ (word rest : List UInt8), NoSp word → Lib.indexByte (word ++ rest) 32 = if rest = [] then -1 else if rest.head? = some 32 then (word.length : Int) else Lib.indexByte (word ++ rest) 32
  | [], [], _ => rfl
  | [], c :: r, _ => by
    rw [if_neg (by simp)]
    split
    · rename_i h
      have : c = 32 := Option.some.inj h
      subst this
      rfl
    · rfl
  | w :: word, rest, h => by
    have hw : ¬ w = 32 := h w List.mem_cons_self
    have ih := index_word word rest (fun c hc => h c (List.mem_cons_of_mem _ hc))
    have e : Lib.indexByte (w :: word ++ rest) 32 = if Lib.indexByte (word ++ rest) 32 == -1 then -1 else Lib.indexByte (word ++ rest) 32 + 1 := by
      show (if w == 32 then (0 : Int) else _) = _
      rw [if_neg (by simpa using hw)]
      rfl
    by_cases h1 : rest = []
    · rw [if_pos h1] at ih ⊢
      rw [e, ih]; rfl
    · rw [if_neg h1] at ih ⊢
      by_cases h2 : rest.head? = some 32
      · rw [if_pos h2] at ih ⊢
        rw [e, ih, if_neg (by simp <;> omega)]
        simp
      · rw [if_neg h2]
end Go.Proofs.YtdgfljkhnifemaaGreatDoor

namespace Go.Proofs.YtdgfljkhnifemaaGreatDoor
open Go.RowKit
set_option linter.unusedVariables false
set_option linter.unusedSimpArgs false

theorem tjoin (A : Option Addr) (n c : Nat) (X : Nat → ByteArray) (hnc : n ≤ c) (h40 : n ≤ 40) (h6 : ∀ i, i < n → (X i).size ≤ 600) (w : World) (ht : StrIn w A n X) :
    Calls Tryz.prog 62 #[.slice A n c, .string ⟨#[32]⟩] w fun e w' => e = .returned (.string ⟨(jn (wl X n)).toArray⟩) ∧ Below w.heap.size w w' := by
  rcases ht.2 with h0 | ⟨b, o, rfl, h⟩
  · subst h0
    refine (Tryz.strings_Join_none A c ⟨#[32]⟩ w).mono ?_
    rintro e w' ⟨he, rfl⟩
    exact ⟨he, Below.refl _ _⟩
  · have hlen := jn_len X 600 n h6
    have hl : (wl X n).length = n := by simp [wl]
    have hm := Nat.mul_le_mul_right 601 h40
    have := Tryz.strings_Join b o c (wl X n) ⟨#[32]⟩ w (fun j x hj => by
      have hjn : j < n := by
        have := (List.getElem?_eq_some_iff.1 hj).1
        omega
      have hx : x = X j := by
        unfold wl at hj
        simp [hjn] at hj
        exact hj.symm
      rw [hx]; exact h.2 j hjn) h.1 (by omega) (by omega) (by
      show (jn (wl X n)).length ≤ _
      omega)
    rw [hl] at this
    exact this
/-- A label, a space and a number of at most 18 digits are read. -/
theorem itoa_nosp {v : Int} : ∀ c ∈ Lib.itoa v, c ≠ 32 := by
  have hd : ∀ u : Nat, ∀ c ∈ Lib.decDigits u, c ≠ 32 := by
    intro u
    induction u using Nat.strongRecOn with
    | _ u ih =>
      intro c hc e
      rw [Lib.decDigits] at hc
      split at hc
      · rename_i h10
        rw [List.mem_singleton.1 hc] at e
        have := digit_nat h10
        rw [e] at this
        have : (32 : UInt8).toNat = 48 + u := this
        have h32 : (32 : UInt8).toNat = 32 := rfl
        omega
      · rename_i h10
        rcases List.mem_append.1 hc with h | h
        · exact ih (u / 10) (by omega) c h e
        · rw [List.mem_singleton.1 h] at e
          have := digit_nat (show u % 10 < 10 by omega)
          rw [e] at this
          have h32 : (32 : UInt8).toNat = 32 := rfl
          omega
  intro c hc
  by_cases hv : v < 0
  · rw [itoa_neg' hv] at hc
    rcases List.mem_cons.1 hc with h | h
    · rw [h]; decide
    · exact hd _ c h
  · rw [itoa_pos' hv] at hc
    exact hd _ c hc
theorem rd_join {s l : ByteArray} {v : Int} (h1 : -1000000000000000000 < v) (h2 : v < 1000000000000000000) (hl : 1 ≤ l.size) (h5 : s.size ≤ 500) (hs : s.data.toList = l.data.toList ++ 32 :: Lib.itoa v) : RdIs s l v 0 := by
  have hsz : s.size = l.size + (1 + (Lib.itoa v).length) := by rw [size_list, size_list, hs, List.length_append, List.length_cons]; omega
  have hget : ∀ j, (hj : j < s.size) → s.data[j]! = (s.data.toList)[j]'(by rw [← size_list]; exact hj) := fun j hj => by
    rw [getElem!_pos s.data j hj]; simp
  have hat : ((s.data[l.size]!).toNat : Int) = 32 := by
    rw [hget l.size (by omega)]
    have : (s.data.toList)[l.size]'(by rw [← size_list]; omega) = 32 := by
      simp only [hs]
      rw [List.getElem_append_right (by rw [← size_list]; exact Nat.le_refl _)]
      simp [← size_list]
    rw [this]; rfl
  have hafter : ∀ j, l.size < j → j < s.size → ((s.data[j]!).toNat : Int) ≠ 32 := fun j hj hjs e => by
    rw [hget j hjs] at e
    have hm : (s.data.toList)[j]'(by rw [← size_list]; exact hjs) ∈ Lib.itoa v := by
      simp only [hs]
      rw [List.getElem_append_right (by rw [← size_list]; omega)]
      obtain ⟨m, e2⟩ : ∃ m, j - l.data.toList.length = m + 1 := ⟨j - l.data.toList.length - 1, by rw [← size_list]; omega⟩
      simp only [e2, List.getElem_cons_succ]
      exact List.getElem_mem _
    exact itoa_nosp _ hm (UInt8.toNat_inj.1 (by have h32 : (32 : UInt8).toNat = 32 := rfl; omega))
  have hlast : Lib.lastIndexByte s 32 = (l.size : Int) := by
    rcases Lib.lastIndexByte_spec s 32 with ⟨_, hn⟩ | ⟨i, hi, e, hc, hn⟩
    · exact absurd hat (hn l.size (by omega))
    · rcases Nat.lt_trichotomy i l.size with g | g | g
      · exact absurd hat (hn l.size g (by omega))
      · rw [e, g]
      · exact absurd hc (hafter i g hi)
  have hx : (s.extract (l.size + 1) s.size).data.toList = Lib.itoa v := by
    have e := size_list l
    rw [Lib.extract_to_end, hs, e, ← List.drop_drop, List.drop_left]
    rfl
  have hx0 : s.extract 0 l.size = l := by
    have e : (s.extract 0 l.size).data.toList = l.data.toList := by
      rw [ByteArray.data_extract, Array.toList_extract, hs, size_list]
      simp
    obtain ⟨⟨a⟩⟩ := l
    exact (list_of e).trans (by simp)
  exact ⟨.inr (.inr ⟨h5, l.size, hl, by omega, hlast, .inl ⟨⟨v, ⟨hx, h1, h2⟩, rfl⟩, hx0.symm, rfl⟩⟩)⟩
end Go.Proofs.YtdgfljkhnifemaaGreatDoor

namespace Go.Proofs.YtdgfljkhnifemaaGreatDoor
open Go.RowKit
set_option linter.unusedVariables false
set_option linter.unusedSimpArgs false

theorem asrt_ss (v : Value) (w : World) : (Instr.typeAssert (.iface 9 v) 20 9 true).run Tryz.prog w = .ok (.tuple #[v, .bool true]) w := by kernel_rfl
theorem asrt_ns (v : Value) (w : World) : (Instr.typeAssert (.iface 3 v) 20 9 true).run Tryz.prog w = .ok (.tuple #[.string ByteArray.empty, .bool false]) w := by kernel_rfl
theorem asrt_nn (v : Value) (w : World) : (Instr.typeAssert (.iface 3 v) 20 3 true).run Tryz.prog w = .ok (.tuple #[v, .bool true]) w := by kernel_rfl
/-- A word of a line. -/
inductive Itm
  | s (b : ByteArray)
  | n (z : Int)
def Itm.val : Itm → Value
  | .s b => .iface 9 (.string b)
  | .n z => .iface 3 (.int .i64 z)
def Itm.txt : Itm → ByteArray
  | .s b => b
  | .n z => ⟨(Lib.itoa z).toArray⟩
def Itm.ok : Itm → Prop
  | .s b => b.size ≤ 600
  | .n z => -9223372036854775808 < z ∧ z < 9223372036854775808
theorem Itm.size {x : Itm} (h : x.ok) : x.txt.size ≤ 600 := by
  cases x with
  | s b => exact h
  | n z =>
    have hd := dec_size (u := z.natAbs) (by have : -9223372036854775808 < z ∧ z < 9223372036854775808 := h; omega)
    have e0 : (⟨(Lib.decDigits z.natAbs).toArray⟩ : ByteArray).size = (Lib.decDigits z.natAbs).length := rfl
    have e : (Itm.txt (.n z)).size = (Lib.itoa z).length := rfl
    rw [e]
    by_cases hz : z < 0
    · rw [itoa_neg' hz, List.length_cons]; omega
    · rw [itoa_pos' hz]
      have : z.toNat = z.natAbs := by omega
      rw [this]; omega
/-- n words from an address on. -/
def ItAt (w : World) (b off n : Nat) (I : Nat → Itm) : Prop := b < w.heap.size ∧ ∀ k, k < n → w.cell? ⟨b, off + k, none⟩ = some (I k).val
theorem ItAt.below {w w' : World} {B b off n : Nat} {I : Nat → Itm} (h : ItAt w b off n I) (hb : Below B w w') (hB : b < B) : ItAt w' b off n I :=
  ⟨Nat.lt_of_lt_of_le h.1 hb.size, fun k hk => (hb.cell (p := ⟨b, off + k, none⟩) hB).trans (h.2 k hk)⟩
def itl (I : Nat → Itm) (n : Nat) : List ByteArray := (List.range n).map fun k => (I k).txt
theorem itl_succ (I : Nat → Itm) (n : Nat) : itl I (n + 1) = itl I n ++ [(I n).txt] := by unfold itl; rw [List.range_succ, List.map_append]; rfl
theorem itl_len (I : Nat → Itm) (n : Nat) : (itl I n).length = n := by simp [itl]
theorem itl_at (I : Nat → Itm) {n k : Nat} (h : k < n) : (itl I n).getD k ByteArray.empty = (I k).txt := by simp [itl, List.getD, h]
theorem wl_itl (I : Nat → Itm) (n : Nat) : wl (fun k => (itl I n).getD k ByteArray.empty) n = itl I n := by
  unfold wl
  conv => rhs; unfold itl
  apply List.map_congr_left
  intro k hk
  exact itl_at I (List.mem_range.1 hk)
theorem RMem5.strs {w wr : World} {u : Value} {N : Nat} {R : List ByteArray} (h : RMem5 w wr u N R) (hN : N = R.length) (hb : N ≤ 300) : ∃ A cap, u = .slice A N cap ∧ N ≤ cap ∧ StrIn wr A N (fun k => R.getD k ByteArray.empty) := by
  rcases h.1.2 with ⟨hv, h0⟩ | ⟨g, cap, cur, hv, _, _, hnc, _⟩
  · exact ⟨none, 0, by rw [hv, h0], by omega, ⟨by omega, .inl h0⟩⟩
  · have hown := h.1
    rw [hv, hN] at hown
    exact ⟨some ⟨g, 0, none⟩, cap, hv, hnc, ⟨by omega, .inr ⟨g, 0, rfl, by rw [hN]; exact str_of_own hown⟩⟩⟩
set_option maxRecDepth 100000 in
set_option maxHeartbeats 4000000 in
theorem tline (b off n c : Nat) (I : Nat → Itm) (h12 : n ≤ 12) (hok : ∀ k, k < n → (I k).ok) (w : World) (hE : Env5 w) (ht : ItAt w b off n I) :
    Calls Tryz.prog 31 #[.slice (some ⟨b, off, none⟩) n c] w fun e w' => e = .returned (.string ⟨(jn (itl I n)).toArray⟩) ∧ Below w.heap.size w w' := by
  have HT := Lib.hid ht
  have H12 := Lib.hid h12
  have HOK := Lib.hid hok
  have HE := Lib.hid hE
  have hbw := ht.1
  obtain ⟨SI0, si0, sz0, sz1, sz2⟩ := info_parts1 infoS
  have SI1 := Lib.hid si0
  have SI2 := Lib.hid sz0
  have SI3 := Lib.hid sz1
  have SI4 := Lib.hid sz2
  clear si0 sz0 sz1 sz2 ht h12 hok hE
  have as1 := asrt_ss
  have as2 := asrt_ns
  have as3 := asrt_nn
  go_enter Tryz.func31, Tryz.ntmps31
  go_wp2_with fail
  go_loopw [3, 10] (fun u v wr => ∃ (i : Nat), Hid (i ≤ n) ∧ v = .int .i64 i ∧ Hid (RMem5 w wr u i (itl I i))) (fun _ v _ => n - (RowKit.intOf v).toNat)
  case atStart => exact ⟨0, Nat.zero_le _, rfl, World.ownsRow_nil _ _ _ _, Below.refl _ _⟩
  case round =>
    obtain ⟨i, Hi, rfl, HQ⟩ := hrel
    obtain ⟨A8, cap8, h8⟩ := HQ.out.form
    subst h8
    have HN300 : Hid (i ≤ 300) := by show i ≤ 300; have := Hi.out; have := H12.out; omega
    by_cases hlt : i < n
    · have T0 : decide ((i : Int) < (n : Int)) = true := by simp <;> omega
      have T0' : decide (i < n) = true := decide_eq_true hlt
      obtain ⟨i', hi'⟩ : ∃ z, z = i + 1 := ⟨_, rfl⟩
      have x0 : IntKind.i64.wrap ((i : Int) + 1) = (i' : Int) := by have := H12.out; rw [IntKind.wrap_i64]; omega
      have HI' : Hid (i' ≤ n) := by show i' ≤ n; omega
      have HMS : Hid (n - (RowKit.intOf (Value.int .i64 (i' : Int))).toNat < n - (RowKit.intOf (Value.int .i64 (i : Int))).toNat) := by show _ < _; simp [RowKit.intOf]; omega
      have k0 : (0 : Int) ≤ (i : Int) := by omega
      have k1 : (i : Int) < (n : Int) := by omega
      have hX := (HT.out.below HQ.out.2 HT.out.1).2 i hlt
      have hbr := (HT.out.below HQ.out.2 HT.out.1).1
      have ho := HOK.out i hlt
      have HNX : Hid (itl I i' = itl I i ++ [(I i).txt]) := by show _ = _; rw [hi', itl_succ]
      have HI2 : Hid (i + 1 = i') := hi'.symm
      generalize I i = x at hX ho HNX
      clear hi' hlt
      cases x with
      | s y =>
        have hX' : wr.cell? ⟨b, off + i, none⟩ = some (.iface 9 (.string y)) := hX
        clear hX ho
        go_wp2_with (first
          | (at_builtin; refine wpList_append_own_at _ ?saa (.tmp 18) (.tmp 20) 27 ?sab (w.heap.size) 9 SI0 (.string ByteArray.empty) 1 16 Tryz.underlying27 SI1.out SI2.out SI3.out SI4.out ?sac ?sad (.slice A8 i cap8) (i) (sc (itl I i)) ?sae (HQ.out.1.alloc _) (⟨wr.heap.size, 0, none⟩) (1) (1) ([.string (y)]) ?sag (rfl) (World.news_of_block (cs := #[.string (y)]) (t := 9) (fr := (0, 0)) (heap_alloc_new _ _)) ((by simp [Value.oneCell'])) (h63_s HN300.out) (hby_s HN300.out) (Nat.le_trans HQ.out.2.size (by simp)) ?sah
             case saa => exact rfl
             case sab => exact rfl
             case sac => exact rfl
             case sad => decide
             case sae => exact rfl
             case sag => exact rfl
             intro v2 w7 hown2 hgrow2 hnil2 hat2
             have HM7 := Lib.hid (HQ.out.app hown2 hgrow2)
             clear hown2 hgrow2 hnil2 hat2))
        go_roundw
        case rel => exact ⟨i', HI', rfl, by have h := HM7.out; rw [HI2.out] at h; show RMem5 w _ _ i' (itl I i'); rw [HNX.out]; exact h⟩
        case measure => exact HMS.out
      | n z =>
        have hX' : wr.cell? ⟨b, off + i, none⟩ = some (.iface 3 (.int .i64 z)) := hX
        have ho' : -9223372036854775808 < z ∧ z < 9223372036854775808 := ho
        have S := Lib.hid fun w hE => titoa5 z (by omega) (by omega) w hE
        clear ho'
        have HEr := Lib.hid (HE.out.below HQ.out.2)
        clear hX ho
        go_wp2_with (first
          | (go_at_call 46
             with_reducible refine (S.out _ HEr.out).mono ?_
             rintro e w5 ⟨rfl, hb5⟩
             have HQ5 := Lib.hid (HQ.out.call hb5)
             clear hb5)
          | (at_builtin; refine wpList_append_own_at _ ?naa (.tmp 25) (.tmp 28) 27 ?nab (w.heap.size) 9 SI0 (.string ByteArray.empty) 1 16 Tryz.underlying27 SI1.out SI2.out SI3.out SI4.out ?nac ?nad (.slice A8 i cap8) (i) (sc (itl I i)) ?nae (HQ5.out.1.alloc _) (⟨w5.heap.size, 0, none⟩) (1) (1) ([.string (⟨(Lib.itoa z).toArray⟩)]) ?nag (rfl) (World.news_of_block (cs := #[.string (⟨(Lib.itoa z).toArray⟩)]) (t := 9) (fr := (0, 0)) (heap_alloc_new _ _)) ((by simp [Value.oneCell'])) (h63_s HN300.out) (hby_s HN300.out) (Nat.le_trans HQ5.out.2.size (by simp)) ?nah
             case naa => exact rfl
             case nab => exact rfl
             case nac => exact rfl
             case nad => decide
             case nae => exact rfl
             case nag => exact rfl
             intro v2 w7 hown2 hgrow2 hnil2 hat2
             have HM7 := Lib.hid (HQ5.out.app hown2 hgrow2)
             clear hown2 hgrow2 hnil2 hat2))
        go_roundw
        case rel => exact ⟨i', HI', rfl, by have h := HM7.out; rw [HI2.out] at h; show RMem5 w _ _ i' (itl I i'); rw [HNX.out]; exact h⟩
        case measure => exact HMS.out
    · have hin : i = n := by have := Hi.out; omega
      have T0 : decide ((i : Int) < (n : Int)) = false := by simp <;> omega
      have T0' : decide (i < n) = false := decide_eq_false hlt
      obtain ⟨A9, cap9, h9, hc9, hs9⟩ := HQ.out.strs (itl_len I i).symm HN300.out
      injection h9 with g1 g2 g3
      subst g1 g3
      have J := tjoin A8 i cap8 (fun k => (itl I i).getD k ByteArray.empty) hc9 (by have := Hi.out; have := H12.out; omega) (fun k hk => by
        show ((itl I i).getD k ByteArray.empty).size ≤ 600
        rw [itl_at I hk]
        exact Itm.size (HOK.out k (by have := Hi.out; omega))) wr hs9
      rw [wl_itl] at J
      have HJ := Lib.hid J
      have HW := Lib.hid HQ.out.2
      rw [hin] at HJ T0 T0' ⊢
      clear J hs9 hc9 hlt hin
      go_wp2_with (first
        | (go_at_call 62
           with_reducible refine HJ.out.mono ?_
           rintro e w6 ⟨rfl, hb6⟩
           have H6 := Lib.hid (below_step HW.out hb6)
           clear hb6))
      go_ret
      exact ⟨rfl, H6.out⟩
end Go.Proofs.YtdgfljkhnifemaaGreatDoor

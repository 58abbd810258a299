/- Merged texts of these proofs: Numeral, Rd, Strs, Fmt, RowP, RwT, RwR, RdR, Aw, AwF. -/
import Derived.Lib.ItoaNum
import Derived.Lib.ItoaMem
import Derived.Lib.AtoiAll
import Derived.Lib.AtoiAllCases
import Derived.Test.YtdgfljkhnifemaaGreatDoorBase
import Derived.Test.YtdgfljkhnifemaaGreatDoorShelf
import Derived.Lib.AppendIntMem
import Derived.Lib.ConvBytes
import Derived.Laws.BytesString
import Derived.Laws.IdiomStrings
import Derived.StillTailTactics
namespace Go.Proofs.YtdgfljkhnifemaaGreatDoor
open Go
set_option linter.unusedVariables false
set_option linter.unusedSimpArgs false

/-- What the reference reads of digits. -/
def dig : List UInt8 → Nat → Nat → Option (Nat × Nat)
  | [], n, d => some (n, d)
  | c :: r, n, d => if c.toNat < 48 ∨ 57 < c.toNat ∨ d = 18 then none else dig r (10 * n + (c.toNat - 48)) (d + 1)
theorem digit_nat {k : Nat} (h : k < 10) : (UInt8.ofNat (48 + k)).toNat = 48 + k := by
  have : k = 0 ∨ k = 1 ∨ k = 2 ∨ k = 3 ∨ k = 4 ∨ k = 5 ∨ k = 6 ∨ k = 7 ∨ k = 8 ∨ k = 9 := by omega
  rcases this with rfl | rfl | rfl | rfl | rfl | rfl | rfl | rfl | rfl | rfl <;> rfl
theorem nDigits_le : ∀ (k u : Nat), 1 ≤ k → u < 10 ^ k → Lib.nDigits u ≤ k
  | 0, _, h, _ => absurd h (by omega)
  | 1, u, _, h => by rw [Lib.nDigits_small (by simpa using h)]; exact Nat.le_refl _
  | k + 2, u, _, h => by
    by_cases hu : u < 10
    · rw [Lib.nDigits_small hu]; omega
    · rw [Lib.nDigits_big hu]
      have := nDigits_le (k + 1) (u / 10) (by omega) (by rw [Nat.pow_succ] at h; omega)
      omega
/-- The numeral of a number of at most 18 digits. -/
def Canon (t : List UInt8) (v : Int) : Prop := t = Lib.itoa v ∧ -1000000000000000000 < v ∧ v < 1000000000000000000
theorem pow18 : (10 : Nat) ^ 18 = 1000000000000000000 := by decide
theorem dec_head {u : Nat} : ∃ c r, Lib.decDigits u = c :: r ∧ 48 ≤ c.toNat ∧ c.toNat ≤ 57 := by
  induction u using Nat.strongRecOn with
  | _ u ih =>
    by_cases hu : u < 10
    · exact ⟨_, [], Lib.decDigits_one hu, by rw [digit_nat hu]; omega, by rw [digit_nat hu]; omega⟩
    · obtain ⟨c, r, e, h1, h2⟩ := ih (u / 10) (by omega)
      exact ⟨c, r ++ [UInt8.ofNat (48 + u % 10)], by rw [Lib.decDigits, dif_neg hu, e]; rfl, h1, h2⟩
/-- A text without its sign, and a number with the text's sign. -/
def unsg (t : List UInt8) : List UInt8 := if t.head? = some 45 then t.tail else t
theorem unsg_minus (r : List UInt8) : unsg (45 :: r) = r := rfl
theorem unsg_not {t : List UInt8} (h : ¬ t.head? = some 45) : unsg t = t := if_neg h
theorem dec_nohead (u : Nat) : ¬ (Lib.decDigits u).head? = some 45 := by
  obtain ⟨c, r, e, hc1, hc2⟩ := dec_head (u := u)
  rw [e]
  intro h
  have : c = 45 := Option.some.inj h
  rw [this] at hc1
  revert hc1; decide
theorem itoa_neg' {v : Int} (h : v < 0) : Lib.itoa v = 45 :: Lib.decDigits v.natAbs := by unfold Lib.itoa; rw [if_pos h]
theorem itoa_pos' {v : Int} (h : ¬ v < 0) : Lib.itoa v = Lib.decDigits v.toNat := by unfold Lib.itoa; rw [if_neg h]
theorem parse_snoc (l : List UInt8) (c : UInt8) : ∀ a m, Lib.parseUint10 a l = .ok m → 48 ≤ c.toNat → c.toNat ≤ 57 → m < 1844674407370955161 → Lib.parseUint10 a (l ++ [c]) = .ok (m * 10 + (c.toNat - 48)) := by
  induction l with
  | nil =>
    intro a m h h1 h2 h3
    simp only [Lib.parseUint10, Lib.NumEnd.ok.injEq] at h
    subst h
    simp only [List.nil_append, Lib.parseUint10, if_pos (And.intro h1 h2)]
    rw [if_neg (by omega), if_neg (by omega)]
  | cons b l ih =>
    intro a m h h1 h2 h3
    simp only [List.cons_append, Lib.parseUint10] at h ⊢
    split at h
    · rename_i hb
      rw [if_pos hb]
      split at h
      · cases h
      · rename_i hb2
        rw [if_neg hb2]
        split at h
        · cases h
        · rename_i hb3
          rw [if_neg hb3]
          exact ih _ m h h1 h2 h3
    · cases h
theorem parse_dec : ∀ u : Nat, u < 1000000000000000000 → Lib.parseUint10 0 (Lib.decDigits u) = .ok u := by
  intro u
  induction u using Nat.strongRecOn with
  | _ u ih =>
    intro h
    by_cases hu : u < 10
    · rw [Lib.decDigits_one hu]
      simp only [Lib.parseUint10, digit_nat hu]
      rw [if_pos (by omega), if_neg (by omega), if_neg (by omega)]
      congr 1
      omega
    · rw [Lib.decDigits, dif_neg hu, parse_snoc _ _ 0 (u / 10) (ih (u / 10) (by omega) (by omega)) (by rw [digit_nat (by omega)]; omega) (by rw [digit_nat (by omega)]; omega) (by omega), digit_nat (by omega)]
      congr 1
      omega
theorem mag_dec {u : Nat} (h : u < 1000000000000000000) : Lib.parseMag (Lib.decDigits u) = .ok u := by
  unfold Lib.parseMag
  obtain ⟨c, r, e, _, _⟩ := dec_head (u := u)
  rw [if_neg (by rw [e]; simp), parse_dec u h]
theorem atoi_itoa {v : Int} (h1 : -1000000000000000000 < v) (h2 : v < 1000000000000000000) : Lib.atoiAll (Lib.itoa v) = .ok v := by
  by_cases hv : v < 0
  · rw [itoa_neg' hv, Lib.atoiAll_minus, mag_dec (by omega)]
    unfold Lib.signed
    simp only
    rw [if_neg (by omega)]
    congr 1
    omega
  · rw [itoa_pos' hv]
    obtain ⟨c, r, e, hc1, hc2⟩ := dec_head (u := v.toNat)
    have hm := mag_dec (u := v.toNat) (by omega)
    rw [e] at hm ⊢
    rw [Lib.atoiAll_plain c r (by omega) (by omega), hm]
    unfold Lib.signless
    simp only
    rw [if_neg (by omega)]
    congr 1
    omega
/-- What the package takes a numeral for: what Atoi reads, if its numeral is the text, and has at most 18 digits. -/
theorem canon_iff_len {t : List UInt8} {n : Int} (h1 : t = Lib.itoa n) : Canon t n ↔ (unsg t).length ≤ 18 := by
  subst h1
  by_cases hv : n < 0
  · rw [itoa_neg' hv, unsg_minus, Lib.decDigits_length]
    constructor
    · rintro ⟨_, h1, h2⟩
      exact nDigits_le 18 _ (by decide) (by rw [pow18]; omega)
    · intro h
      have h2 := Lib.lt_pow_nDigits n.natAbs
      have h3 : 10 ^ Lib.nDigits n.natAbs ≤ 10 ^ 18 := Nat.pow_le_pow_right (by decide) h
      rw [pow18] at h3
      exact ⟨(itoa_neg' hv).symm, by omega, by omega⟩
  · rw [itoa_pos' hv, unsg_not (dec_nohead _), Lib.decDigits_length]
    constructor
    · rintro ⟨_, h1, h2⟩
      exact nDigits_le 18 _ (by decide) (by rw [pow18]; omega)
    · intro h
      have h2 := Lib.lt_pow_nDigits n.toNat
      have h3 : 10 ^ Lib.nDigits n.toNat ≤ 10 ^ 18 := Nat.pow_le_pow_right (by decide) h
      rw [pow18] at h3
      exact ⟨(itoa_pos' hv).symm, by omega, by omega⟩
theorem canon_unique {t : List UInt8} {a b : Int} (h1 : Canon t a) (h2 : Canon t b) : a = b := by
  have e1 := atoi_itoa h1.2.1 h1.2.2
  have e2 := atoi_itoa h2.2.1 h2.2.2
  rw [← h1.1] at e1
  rw [← h2.1, e1] at e2
  exact Lib.NumEnd.ok.inj e2
end Go.Proofs.YtdgfljkhnifemaaGreatDoor

namespace Go.Proofs.YtdgfljkhnifemaaGreatDoor
open Go.RowKit
set_option linter.unusedVariables false
set_option linter.unusedSimpArgs false

/-- What the library's variables hold. -/
def Env5 (w : World) : Prop := Lib.TabIs Tryz.prog w "internal/strconv.uint64pow10" .u64 Lib.pow10Tab ∧ (∃ tp p, w.var? Tryz.prog "strconv.ErrSyntax" = some #[.iface tp p]) ∧ (∃ tp p, w.var? Tryz.prog "strconv.ErrRange" = some #[.iface tp p])
theorem var_below5 {P : Program} {w w' : World} {n : String} {cs : Array Value} (h : w.var? P n = some cs) (hb : Below w.heap.size w w') : w'.var? P n = some cs := by
  unfold World.var? at h ⊢
  cases hg : P.globalNamed n with
  | none => rw [hg] at h; cases h
  | some g =>
    rw [hg] at h
    have hlt : g < w.heap.size := by
      rcases Nat.lt_or_ge g w.heap.size with h1 | h1
      · exact h1
      · simp only [Option.bind_some, Array.getElem?_eq_none h1] at h; cases h
    simp only [Option.bind_some, hb.block g hlt]
    exact h
theorem Env5.below {w w' : World} (h : Env5 w) (hb : Below w.heap.size w w') : Env5 w' := by
  obtain ⟨h1, ⟨tp, p, h2⟩, ⟨tq, q, h3⟩⟩ := h
  exact ⟨var_below5 h1 hb, ⟨tp, p, var_below5 h2 hb⟩, ⟨tq, q, var_below5 h3 hb⟩⟩
theorem Env5.at {w w' : World} {B : Nat} (h : Env5 w) (hB : w.heap.size ≤ B) (hb : Below B w w') : Env5 w' := h.below (hb.mono hB)

theorem titoa5 (n : Int) (h0 : -9223372036854775808 ≤ n) (h1 : n ≤ 9223372036854775807) (w : World) (hE : Env5 w) :
    Calls Tryz.prog 46 #[.int .i64 n] w fun e w' => e = .returned (.string ⟨(Lib.itoa n).toArray⟩) ∧ Below w.heap.size w w' := by
  refine (Tryz.strconv_Itoa n h0 h1 w hE.1).mono ?_
  rintro e w' ⟨he, k, os, rfl⟩
  exact ⟨he, Lib.below_grow _ _ (Nat.le_refl _) _ _⟩
theorem tatoi_ok (s : ByteArray) (hmax : s.size ≤ 1000) (v : Int) (h : Lib.atoiAll s.data.toList = .ok v) (w : World) :
    Calls Tryz.prog 45 #[.string s] w fun e w' => e = .returned (.tuple #[.int .i64 v, .nilIface]) ∧ Below w.heap.size w w' := by
  refine (Tryz.strconv_Atoi_ok s (by omega) v h w).mono ?_
  rintro e w' ⟨he, rfl | ⟨t, rfl⟩⟩
  · exact ⟨he, Below.refl _ _⟩
  · exact ⟨he, Lib.bytesWorld_below _ _ _⟩
theorem tatoi_err (s : ByteArray) (hmax : s.size ≤ 1000) (h : ∀ v, Lib.atoiAll s.data.toList ≠ .ok v) : ∃ n0 : Int, ∀ w, Env5 w →
    Calls Tryz.prog 45 #[.string s] w fun e w' => ∃ N, e = .returned (.tuple #[.int .i64 n0, .iface 132 (.pointer (some ⟨N, 0, none⟩))]) ∧ Below w.heap.size w w' := by
  cases hc : Lib.atoiAll s.data.toList
  · rename_i v
    exact absurd hc (h v)
  · refine ⟨0, fun w hE => ?_⟩
    obtain ⟨tp, p, hv⟩ := hE.2.1
    refine (Any.strconv_Atoi_syntax_var Tryz.laysC172 s (by omega) hc tp p w hv).mono ?_
    rintro e w' ⟨N, he, _, _, hb⟩
    exact ⟨N, he, hb⟩
  · refine ⟨Lib.atoiSat s.data.toList, fun w hE => ?_⟩
    obtain ⟨tp, p, hv⟩ := hE.2.2
    refine (Tryz.strconv_Atoi_range_var s (by omega) hc tp p w hv).mono ?_
    rintro e w' ⟨N, he, _, _, hb⟩
    exact ⟨N, he, hb⟩
theorem of_list {s : ByteArray} {t : List UInt8} (h : t = s.data.toList) : (⟨t.toArray⟩ : ByteArray) = s := by
  subst h; obtain ⟨⟨l⟩⟩ := s; rfl
theorem bytes_ext {a b : ByteArray} (h : a.toList = b.toList) : a = b := by
  rw [ByteArray.toList_eq, ByteArray.toList_eq] at h
  obtain ⟨⟨l⟩⟩ := a
  obtain ⟨⟨m⟩⟩ := b
  have : l = m := h
  rw [this]
theorem trim_unsg (t : List UInt8) : Lib.trimPrefix t [45] = unsg t := by
  unfold Lib.trimPrefix Lib.hasPrefix unsg
  cases t with
  | nil => rfl
  | cons c r =>
    by_cases h : c = 45
    · subst h; rfl
    · have h1 : ([45] : List UInt8).isPrefixOf (c :: r) = false := by simp [List.isPrefixOf, Ne.symm h]
      rw [h1]
      simp [h]

/-- What Read answers: the label, the number, the error. -/
structure RdIs (s : ByteArray) (l : ByteArray) (n e : Int) : Prop where
  out : (500 < s.size ∧ l = ByteArray.empty ∧ n = 0 ∧ e = 4) ∨
    (s.size ≤ 500 ∧ Lib.lastIndexByte s 32 < 1 ∧ l = ByteArray.empty ∧ n = 0 ∧ e = 7) ∨
    (s.size ≤ 500 ∧ ∃ k : Nat, 1 ≤ k ∧ k < s.size ∧ Lib.lastIndexByte s 32 = (k : Int) ∧
      (((∃ v, Canon (s.extract (k + 1) s.size).data.toList v ∧ n = v) ∧ l = s.extract 0 k ∧ e = 0) ∨
       ((∀ v, ¬ Canon (s.extract (k + 1) s.size).data.toList v) ∧ l = ByteArray.empty ∧ n = 0 ∧ e = 7)))
theorem RdIs.uniq {s l l' : ByteArray} {n n' e e' : Int} (h : RdIs s l n e) (h' : RdIs s l' n' e') : l = l' ∧ n = n' ∧ e = e' := by
  rcases h.out with ⟨a, rfl, rfl, rfl⟩ | ⟨a, b, rfl, rfl, rfl⟩ | ⟨a, k, k1, k2, k3, c⟩ <;> rcases h'.out with ⟨a', rfl, rfl, rfl⟩ | ⟨a', b', rfl, rfl, rfl⟩ | ⟨a', k', k1', k2', k3', c'⟩ <;> try omega
  · exact ⟨rfl, rfl, rfl⟩
  · exact ⟨rfl, rfl, rfl⟩
  · obtain rfl : k = k' := by omega
    rcases c with ⟨⟨v, hv, rfl⟩, rfl, rfl⟩ | ⟨hn, rfl, rfl, rfl⟩ <;> rcases c' with ⟨⟨v', hv', rfl⟩, rfl, rfl⟩ | ⟨hn', rfl, rfl, rfl⟩
    · exact ⟨rfl, canon_unique hv hv', rfl⟩
    · exact absurd hv (hn' _)
    · exact absurd hv' (hn _)
    · exact ⟨rfl, rfl, rfl⟩
theorem last_cases (s : ByteArray) : Lib.lastIndexByte s 32 < 1 ∨ ∃ k : Nat, 1 ≤ k ∧ k < s.size ∧ Lib.lastIndexByte s 32 = (k : Int) := by
  rcases Lib.lastIndexByte_spec s 32 with ⟨e, _⟩ | ⟨i, hi, e, _⟩
  · exact .inl (by omega)
  · by_cases h : 1 ≤ i
    · exact .inr ⟨i, h, hi, e⟩
    · exact .inl (by omega)
theorem ext_size (s : ByteArray) (a b : Nat) (hb : b ≤ s.size) : (s.extract a b).size = b - a := by rw [ByteArray.size_extract]; omega
set_option maxHeartbeats 2000000 in
theorem tread (s : ByteArray) (hs : s.size ≤ 1000) : ∃ (l : ByteArray) (n e : Int), RdIs s l n e ∧ ∀ w, Env5 w →
    Calls Tryz.prog 16 #[.string s] w fun e' w' => e' = .returned (.tuple #[.string l, .int .i64 n, .int .i64 e]) ∧ Below w.heap.size w w' := by
  have S1 := Lib.hid fun w => Tryz.strings_LastIndexByte s 32 (by omega) w
  by_cases h5 : 500 < s.size
  · refine ⟨ByteArray.empty, 0, 4, ⟨.inl ⟨h5, rfl, rfl, rfl⟩⟩, fun w hE => ?_⟩
    have t1 : decide ((500 : Int) < (s.size : Int)) = true := decide_eq_true (by omega)
    have t2 : decide (500 < s.size) = true := decide_eq_true h5
    clear h5 hE hs
    go_enter Tryz.func16, Tryz.ntmps16
    go_wp2_with fail
    go_ret3
    exact ⟨rfl, by (repeat' (first | assumption | exact Below.refl _ _ | exact Below.size (by assumption) | (refine Below.setCell ?_ ?_ _) | (refine Below.alloc ?_ ?_ _) | (refine Below.drew ?_) | (refine below_drewN ?_ _) | (refine Below.trans ?_ (Below.mono ‹Below _ _ _› ?_)) | omega | (simp; done) | (simp; omega) | (simp at *; omega)))⟩
  · have t1 : decide ((500 : Int) < (s.size : Int)) = false := decide_eq_false (by omega)
    have t2 : decide (500 < s.size) = false := decide_eq_false h5
    rcases last_cases s with hk | ⟨k, k1, k2, hk⟩
    · refine ⟨ByteArray.empty, 0, 7, ⟨.inr (.inl ⟨by omega, hk, rfl, rfl, rfl⟩)⟩, fun w hE => ?_⟩
      obtain ⟨K, hK⟩ : ∃ K, K = Lib.lastIndexByte s 32 := ⟨_, rfl⟩
      rw [← hK] at hk S1
      have t3 : decide (K < 1) = true := decide_eq_true hk
      clear h5 hE hs hk hK
      go_enter Tryz.func16, Tryz.ntmps16
      go_wp2_with (first | (go_at_call 44; (with_reducible refine (S1.out _).mono ?_); rintro e w' ⟨rfl, rfl⟩))
      go_ret3
      exact ⟨rfl, by (repeat' (first | assumption | exact Below.refl _ _ | exact Below.size (by assumption) | (refine Below.setCell ?_ ?_ _) | (refine Below.alloc ?_ ?_ _) | (refine Below.drew ?_) | (refine below_drewN ?_ _) | (refine Below.trans ?_ (Below.mono ‹Below _ _ _› ?_)) | omega | (simp; done) | (simp; omega) | (simp at *; omega)))⟩
    · rw [hk] at S1
      obtain ⟨kk, hkk⟩ : ∃ z, z = k + 1 := ⟨_, rfl⟩
      obtain ⟨last, hl⟩ : ∃ z, z = s.extract kk s.size := ⟨_, rfl⟩
      have hls : last.size ≤ 1000 := by rw [hl, ext_size _ _ _ (Nat.le_refl _)]; omega
      have t3 : decide ((k : Int) < 1) = false := decide_eq_false (by omega)
      have t4 : IntKind.i64.wrap ((k : Int) + 1) = (kk : Int) := by rw [IntKind.wrap_i64]; omega
      have t5 : kk ≤ s.size := by omega
      have t6 : (kk : Int) ≤ (s.size : Int) := by omega
      have t7 : k ≤ s.size := by omega
      have t8 : (k : Int) ≤ (s.size : Int) := by omega
      have he : s.extract kk s.size = last := hl.symm
      have S4 := Lib.hid fun w => Tryz.strings_TrimPrefix last ⟨#[45]⟩ w
      have hno : (∀ v, ¬ Canon last.data.toList v) → RdIs s ByteArray.empty 0 7 := fun h => ⟨.inr (.inr ⟨by omega, k, k1, k2, hk, .inr ⟨by rw [← hkk, ← hl]; exact h, rfl, rfl, rfl⟩⟩)⟩
      by_cases hv : ∃ v, Lib.atoiAll last.data.toList = .ok v
      · obtain ⟨v, hv⟩ := hv
        have bv := Lib.atoiAll_bounds hv
        have S2 := Lib.hid fun w => tatoi_ok last hls v hv w
        have s3 := fun w hE => titoa5 v bv.1 bv.2 w hE
        obtain ⟨x, hx⟩ : ∃ x : ByteArray, x = ⟨(Lib.itoa v).toArray⟩ := ⟨_, rfl⟩
        rw [← hx] at s3
        have S3 := Lib.hid s3
        by_cases hxl : x = last
        · have ht : last.data.toList = Lib.itoa v := by rw [← hxl, hx]
          obtain ⟨y, hy⟩ : ∃ y : ByteArray, y = ⟨(Lib.trimPrefix last.data.toList (⟨#[45]⟩ : ByteArray).data.toList).toArray⟩ := ⟨_, rfl⟩
          rw [← hy] at S4
          have hys : y.size = (unsg last.data.toList).length := by
            rw [hy, show (⟨#[45]⟩ : ByteArray).data.toList = [45] from rfl, trim_unsg]
            rfl
          have hcan := canon_iff_len (n := v) ht
          by_cases h18 : y.size ≤ 18
          · have hc : Canon last.data.toList v := hcan.2 (by omega)
            refine ⟨s.extract 0 k, v, 0, ⟨.inr (.inr ⟨by omega, k, k1, k2, hk, .inl ⟨⟨v, by rw [← hkk, ← hl]; exact hc, rfl⟩, rfl, rfl⟩⟩)⟩, fun w hE => ?_⟩
            have HE := Lib.hid hE
            have u1 : decide ((18 : Int) < (y.size : Int)) = false := decide_eq_false (by omega)
            have u2 : decide (18 < y.size) = false := decide_eq_false (by omega)
            rw [hxl] at S3
            clear h5 hE hs hk hl hls hkk k1 k2 hno hv bv s3 hx hxl ht hy hys hcan h18 hc
            go_enter Tryz.func16, Tryz.ntmps16
            go_wp2_with (first | (go_at_call 44; (with_reducible refine (S1.out _).mono ?_); rintro e w' ⟨rfl, rfl⟩) | (go_at_call 45; (with_reducible refine (S2.out _).mono ?_); rintro e w2 ⟨rfl, hb2⟩) | (go_at_call 46; (with_reducible refine (S3.out _ ?_).mono ?_); (focus (exact HE.out.below hb2)); rintro e w3 ⟨rfl, hb3⟩) | (go_at_call 47; (with_reducible refine (S4.out _).mono ?_); rintro e w' ⟨rfl, rfl⟩))
            go_ret3
            refine ⟨by simp [*], ?_⟩
            (repeat' (first | assumption | exact Below.refl _ _ | exact Below.size (by assumption) | (refine Below.setCell ?_ ?_ _) | (refine Below.alloc ?_ ?_ _) | (refine Below.drew ?_) | (refine below_drewN ?_ _) | (refine Below.trans ?_ (Below.mono ‹Below _ _ _› ?_)) | omega | (simp; done) | (simp; omega) | (simp at *; omega)))
          · refine ⟨ByteArray.empty, 0, 7, hno (fun v' hc' => ?_), fun w hE => ?_⟩
            · have e1 := atoi_itoa hc'.2.1 hc'.2.2
              rw [← hc'.1, hv] at e1
              have e2 := Lib.NumEnd.ok.inj e1
              subst e2
              have := hcan.1 hc'
              omega
            have HE := Lib.hid hE
            have u1 : decide ((18 : Int) < (y.size : Int)) = true := decide_eq_true (by omega)
            have u2 : decide (18 < y.size) = true := decide_eq_true (by omega)
            rw [hxl] at S3
            clear h5 hE hs hk hl hls hkk k1 k2 hno hv bv s3 hx hxl ht hy hys hcan h18
            go_enter Tryz.func16, Tryz.ntmps16
            go_wp2_with (first | (go_at_call 44; (with_reducible refine (S1.out _).mono ?_); rintro e w' ⟨rfl, rfl⟩) | (go_at_call 45; (with_reducible refine (S2.out _).mono ?_); rintro e w2 ⟨rfl, hb2⟩) | (go_at_call 46; (with_reducible refine (S3.out _ ?_).mono ?_); (focus (exact HE.out.below hb2)); rintro e w3 ⟨rfl, hb3⟩) | (go_at_call 47; (with_reducible refine (S4.out _).mono ?_); rintro e w' ⟨rfl, rfl⟩))
            go_ret3
            refine ⟨rfl, ?_⟩
            (repeat' (first | assumption | exact Below.refl _ _ | exact Below.size (by assumption) | (refine Below.setCell ?_ ?_ _) | (refine Below.alloc ?_ ?_ _) | (refine Below.drew ?_) | (refine below_drewN ?_ _) | (refine Below.trans ?_ (Below.mono ‹Below _ _ _› ?_)) | omega | (simp; done) | (simp; omega) | (simp at *; omega)))
        · refine ⟨ByteArray.empty, 0, 7, hno (fun v' hc' => ?_), fun w hE => ?_⟩
          · have e1 := atoi_itoa hc'.2.1 hc'.2.2
            rw [← hc'.1, hv] at e1
            have e2 := Lib.NumEnd.ok.inj e1
            subst e2
            exact hxl (hx.trans (of_list hc'.1.symm))
          have HE := Lib.hid hE
          have u1 : ¬ x.toList = last.toList := fun h => hxl (bytes_ext h)
          have u2 : decide (x.toList = last.toList) = false := decide_eq_false u1
          clear h5 hE hs hk hl hls hkk k1 k2 hno hv bv s3 hx
          go_enter Tryz.func16, Tryz.ntmps16
          go_wp2_with (first | (go_at_call 44; (with_reducible refine (S1.out _).mono ?_); rintro e w' ⟨rfl, rfl⟩) | (go_at_call 45; (with_reducible refine (S2.out _).mono ?_); rintro e w2 ⟨rfl, hb2⟩) | (go_at_call 46; (with_reducible refine (S3.out _ ?_).mono ?_); (focus (exact HE.out.below hb2)); rintro e w3 ⟨rfl, hb3⟩) | (go_at_call 47; (with_reducible refine (S4.out _).mono ?_); rintro e w' ⟨rfl, rfl⟩))
          go_ret3
          refine ⟨rfl, ?_⟩
          (repeat' (first | assumption | exact Below.refl _ _ | exact Below.size (by assumption) | (refine Below.setCell ?_ ?_ _) | (refine Below.alloc ?_ ?_ _) | (refine Below.drew ?_) | (refine below_drewN ?_ _) | (refine Below.trans ?_ (Below.mono ‹Below _ _ _› ?_)) | omega | (simp; done) | (simp; omega) | (simp at *; omega)))
      · have hv' : ∀ v, Lib.atoiAll last.data.toList ≠ .ok v := fun v h => hv ⟨v, h⟩
        obtain ⟨n0, h0⟩ := tatoi_err last hls hv'
        refine ⟨ByteArray.empty, 0, 7, hno (fun v hc => hv' v ?_), fun w hE => ?_⟩
        · have e1 := atoi_itoa hc.2.1 hc.2.2
          rw [← hc.1] at e1
          exact e1
        have HE := Lib.hid hE
        have S2 := Lib.hid h0
        clear h5 hE hs hk hl hls hkk k1 k2 hno hv hv' h0
        go_enter Tryz.func16, Tryz.ntmps16
        go_wp2_with (first | (go_at_call 44; (with_reducible refine (S1.out _).mono ?_); rintro e w' ⟨rfl, rfl⟩) | (go_at_call 45; (with_reducible refine (S2.out _ ?_).mono ?_); (focus (exact HE.out)); rintro e w2 ⟨N, rfl, hb2⟩))
        go_ret3
        refine ⟨rfl, ?_⟩
        (repeat' (first | assumption | exact Below.refl _ _ | exact Below.size (by assumption) | (refine Below.setCell ?_ ?_ _) | (refine Below.alloc ?_ ?_ _) | (refine Below.drew ?_) | (refine below_drewN ?_ _) | (refine Below.trans ?_ (Below.mono ‹Below _ _ _› ?_)) | omega | (simp; done) | (simp; omega) | (simp at *; omega)))
end Go.Proofs.YtdgfljkhnifemaaGreatDoor

namespace Go.Proofs.YtdgfljkhnifemaaGreatDoor
open Go.RowKit
set_option linter.unusedVariables false
set_option linter.unusedSimpArgs false

/-- n strings from an address on. -/
def StrAt (w : World) (b off n : Nat) (X : Nat → ByteArray) : Prop := b < w.heap.size ∧ ∀ k, k < n → w.cell? ⟨b, off + k, none⟩ = some (.string (X k))
theorem StrAt.below {w w' : World} {B b off n : Nat} {X : Nat → ByteArray} (h : StrAt w b off n X) (hb : Below B w w') (hB : b < B) : StrAt w' b off n X :=
  ⟨Nat.lt_of_lt_of_le h.1 (Nat.le_trans (Nat.le_refl _) hb.size), fun k hk => (hb.cell (p := ⟨b, off + k, none⟩) hB).trans (h.2 k hk)⟩
/-- A slice of strings, nil perhaps. -/
def StrIn (w : World) (A : Option Addr) (n : Nat) (X : Nat → ByteArray) : Prop := n ≤ 9223372036854775807 ∧ (n = 0 ∨ ∃ b off, A = some ⟨b, off, none⟩ ∧ StrAt w b off n X)
theorem StrIn.below {w w' : World} {B n : Nat} {A : Option Addr} {X : Nat → ByteArray} (h : StrIn w A n X) (hB : w.heap.size ≤ B) (hb : Below B w w') : StrIn w' A n X := by
  refine ⟨h.1, ?_⟩
  rcases h.2 with h0 | ⟨b, off, hA, ht⟩
  · exact .inl h0
  · exact .inr ⟨b, off, hA, ht.below hb (Nat.lt_of_lt_of_le ht.1 hB)⟩
/-- The slice's cell at an index, wherever it lies. -/
theorem StrIn.at {w : World} {A : Option Addr} {n k : Nat} {X : Nat → ByteArray} (h : StrIn w A n X) (hk : k < n) : ∃ b off, A = some ⟨b, off, none⟩ ∧ b < w.heap.size ∧ w.cell? ⟨b, off + k, none⟩ = some (.string (X k)) := by
  rcases h.2 with h0 | ⟨b, off, hA, ht⟩
  · omega
  · exact ⟨b, off, hA, ht.1, ht.2 k hk⟩

/-- The first index of which p is true; n, if there is none. -/
def FirstAt (p : Nat → Bool) (n k : Nat) : Prop := k ≤ n ∧ (∀ j, j < k → p j = false) ∧ (k < n → p k = true)
theorem first_ex (p : Nat → Bool) : ∀ n, ∃ k, FirstAt p n k := by
  intro n
  induction n with
  | zero => exact ⟨0, Nat.le_refl _, fun j hj => absurd hj (by omega), fun h => absurd h (by omega)⟩
  | succ n ih =>
    obtain ⟨k, h1, h2, h3⟩ := ih
    by_cases hk : k < n
    · exact ⟨k, by omega, h2, fun _ => h3 hk⟩
    · have : k = n := by omega
      subst this
      cases hp : p k with
      | true => exact ⟨k, by omega, h2, fun _ => hp⟩
      | false => exact ⟨k + 1, by omega, fun j hj => by
          rcases Nat.lt_or_ge j k with h | h
          · exact h2 j h
          · have : j = k := by omega
            rw [this]; exact hp, fun h => absurd h (by omega)⟩
theorem first_at {p : Nat → Bool} {n k i : Nat} (h : FirstAt p n k) (hi : i < n) (hik : i ≤ k) : (p i = true ∧ i = k) ∨ (p i = false ∧ i + 1 ≤ k) := by
  rcases Nat.lt_or_ge i k with h1 | h1
  · exact .inr ⟨h.2.1 i h1, h1⟩
  · have : i = k := by omega
    subst this
    exact .inl ⟨h.2.2 hi, rfl⟩


theorem first_any {p : Nat → Bool} {n k : Nat} (h : FirstAt p n k) : (k < n) ↔ ∃ j, j < n ∧ p j = true := by
  constructor
  · intro hk; exact ⟨k, hk, h.2.2 hk⟩
  · rintro ⟨j, hj, hp⟩
    rcases Nat.lt_or_ge j k with g | g
    · rw [h.2.1 j g] at hp; cases hp
    · omega

theorem p_bad (c : Nat) (hc : c < 256) (f : Bool) (hf : f = decide (c < 33 ∨ 126 < c)) (w : World) :
    Calls Tryz.prog 50 #[.int .u8 (c : Int)] w fun e w' => e = .returned (.bool f) ∧ Below w.heap.size w w' := by
  by_cases h1 : c < 33
  · have t1 : decide ((c : Int) < 33) = true := decide_eq_true (by omega)
    have t1' : decide (c < 33) = true := decide_eq_true h1
    obtain rfl : f = true := by rw [hf]; exact decide_eq_true (.inl h1)
    clear hf h1 hc
    go_enter Tryz.func50, Tryz.ntmps50
    go_wp2_with fail
    go_ret
    exact ⟨rfl, by (repeat' (first | assumption | exact Below.refl _ _ | exact Below.size (by assumption) | (refine Below.setCell ?_ ?_ _) | (refine Below.alloc ?_ ?_ _) | (refine Below.drew ?_) | (refine below_drewN ?_ _) | (refine Below.trans ?_ (Below.mono ‹Below _ _ _› ?_)) | omega | (simp; done) | (simp; omega) | (simp at *; omega)))⟩
  · have t1 : decide ((c : Int) < 33) = false := decide_eq_false (by omega)
    have t1' : decide (c < 33) = false := decide_eq_false h1
    by_cases h2 : 126 < c
    · have t2 : decide ((126 : Int) < (c : Int)) = true := decide_eq_true (by omega)
      have t2' : decide (126 < c) = true := decide_eq_true h2
      obtain rfl : f = true := by rw [hf]; exact decide_eq_true (.inr h2)
      clear hf h1 h2 hc
      go_enter Tryz.func50, Tryz.ntmps50
      go_wp2_with fail
      go_ret
      exact ⟨rfl, by (repeat' (first | assumption | exact Below.refl _ _ | exact Below.size (by assumption) | (refine Below.setCell ?_ ?_ _) | (refine Below.alloc ?_ ?_ _) | (refine Below.drew ?_) | (refine below_drewN ?_ _) | (refine Below.trans ?_ (Below.mono ‹Below _ _ _› ?_)) | omega | (simp; done) | (simp; omega) | (simp at *; omega)))⟩
    · have t2 : decide ((126 : Int) < (c : Int)) = false := decide_eq_false (by omega)
      have t2' : decide (126 < c) = false := decide_eq_false h2
      obtain rfl : f = false := by rw [hf]; exact decide_eq_false (by omega)
      clear hf h1 h2 hc
      go_enter Tryz.func50, Tryz.ntmps50
      go_wp2_with fail
      go_ret
      exact ⟨rfl, by (repeat' (first | assumption | exact Below.refl _ _ | exact Below.size (by assumption) | (refine Below.setCell ?_ ?_ _) | (refine Below.alloc ?_ ?_ _) | (refine Below.drew ?_) | (refine below_drewN ?_ _) | (refine Below.trans ?_ (Below.mono ‹Below _ _ _› ?_)) | omega | (simp; done) | (simp; omega) | (simp at *; omega)))⟩
theorem p_wide (s : ByteArray) (W : Int) (g : Nat) (f : Bool) (hf : f = decide (W < (s.size : Int))) (w : World) (hy : w.cell? ⟨g, 0, none⟩ = some (.int .i64 W)) (hg : g < w.heap.size) :
    Calls Tryz.prog 51 #[.string s, .pointer (some ⟨g, 0, none⟩)] w fun e w' => e = .returned (.bool f) ∧ Below w.heap.size w w' := by
  have t := hf.symm
  clear hf
  go_enter Tryz.func51, Tryz.ntmps51
  go_wp2_with fail
  go_ret
  refine ⟨by simp [*], ?_⟩
  (repeat' (first | assumption | exact Below.refl _ _ | exact Below.size (by assumption) | (refine Below.setCell ?_ ?_ _) | (refine Below.alloc ?_ ?_ _) | (refine Below.drew ?_) | (refine below_drewN ?_ _) | (refine Below.trans ?_ (Below.mono ‹Below _ _ _› ?_)) | omega | (simp; done) | (simp; omega) | (simp at *; omega)))

set_option maxHeartbeats 2000000 in
theorem find_bad (b off n c k : Nat) (C : Nat → Nat) (w : World) (h2 : n ≤ 1000) (ht : (b < w.heap.size ∧ ∀ k, k < n → w.cell? ⟨b, off + k, none⟩ = some (.int .u8 (C k : Int)))) (hC : ∀ k, k < n → C k < 256) (hk : FirstAt (fun j => decide (C j < 33 ∨ 126 < C j)) n k) (v : Int) (hv : v = if k < n then (k : Int) else -1) :
    Calls Tryz.prog 77 #[.slice (some ⟨b, off, none⟩) n c, .func (.func 50) #[] #[]] w fun e w' => e = .returned (.int .i64 v) ∧ Below w.heap.size w w' := by
  have HT := Lib.hid ht
  have HK := Lib.hid hk
  have H2 := Lib.hid h2
  have HV := Lib.hid hv
  have hb := ht.1
  have HC := Lib.hid hC
  clear hC
  clear ht hk h2 hv
  go_enter Tryz.func77, Tryz.ntmps77
  go_wp2_with fail
  go_loopw [8] (fun u wr => ∃ i : Nat, Hid (i ≤ n ∧ i ≤ k) ∧ u = .int .i64 i ∧ Hid (Below w.heap.size w wr)) (fun u _ => n - (intOf u).toNat)
  case atStart => exact ⟨0, ⟨Nat.zero_le _, Nat.zero_le _⟩, rfl, Below.refl _ _⟩
  case round =>
    obtain ⟨i, Hi, rfl, HW⟩ := hrel
    by_cases hlt : i < n
    · have T0 : decide ((i : Int) < (n : Int)) = true := by simp <;> omega
      have T0' : decide (i < n) = true := decide_eq_true hlt
      obtain ⟨i', hi'⟩ : ∃ z, z = i + 1 := ⟨_, rfl⟩
      have x0 : IntKind.i64.wrap ((i : Int) + 1) = (i' : Int) := by have := H2.out; rw [IntKind.wrap_i64]; omega
      have hX : wr.cell? ⟨b, off + i, none⟩ = some (.int .u8 (C i : Int)) := (HW.out.cell (p := ⟨b, off + i, none⟩) hb).trans (HT.out.2 i hlt)
      have k0 : (0 : Int) ≤ (i : Int) := by omega
      have k1 : (i : Int) < (n : Int) := by omega
      have HMS : Hid (n - (intOf (Value.int .i64 (i' : Int))).toNat < n - (intOf (Value.int .i64 (i : Int))).toNat) := by show _ < _; simp [intOf]; omega
      rcases first_at HK.out hlt Hi.out.2 with ⟨hp, hik⟩ | ⟨hp, hik⟩
      · have KK := Lib.hid (p_bad (C i) (HC.out i hlt) true hp.symm wr)
        have HR : Hid ((i : Int) = v) := by show (i : Int) = v; rw [HV.out, hik, if_pos (by omega)]
        clear hi' hp hik 
        go_wp2_with (first | (go_at_call 50; (with_reducible refine (KK.out).mono ?_); rintro e w1 ⟨rfl, hb1⟩; obtain ⟨hc1, hf1⟩ := bcell hb1; have hz1 := hb1.size; (try simp at hz1); (try simp only [heap_drew, World.heap_drewN] at hz1); (try simp only [heap_drew, World.heap_drewN] at hc1); (try simp only [heap_drew, World.heap_drewN] at hf1); (try have hs1 := Nat.lt_of_succ_le hz1); (try have hs2 := Nat.lt_of_succ_lt hs1); (try have y0 : w.heap.size < w1.heap.size := by omega); (try have y1 : w.heap.size + 1 < w1.heap.size := by omega); (try have y2 : w.heap.size + 2 < w1.heap.size := by omega)))
        go_ret
        refine ⟨ret_int HR.out, ?_⟩
        have := HW.out
        (repeat' (first | assumption | exact Below.refl _ _ | exact Below.size (by assumption) | (refine Below.setCell ?_ ?_ _) | (refine Below.alloc ?_ ?_ _) | (refine Below.drew ?_) | (refine below_drewN ?_ _) | (refine Below.trans ?_ (Below.mono ‹Below _ _ _› ?_)) | omega | (simp; done) | (simp; omega) | (simp at *; omega)))
      · have KK := Lib.hid (p_bad (C i) (HC.out i hlt) false hp.symm wr)
        have HI' : Hid (i' ≤ n ∧ i' ≤ k) := by show _ ∧ _; omega
        clear hi' hp hik 
        go_wp2_with (first | (go_at_call 50; (with_reducible refine (KK.out).mono ?_); rintro e w1 ⟨rfl, hb1⟩; obtain ⟨hc1, hf1⟩ := bcell hb1; have hz1 := hb1.size; (try simp at hz1); (try simp only [heap_drew, World.heap_drewN] at hz1); (try simp only [heap_drew, World.heap_drewN] at hc1); (try simp only [heap_drew, World.heap_drewN] at hf1); (try have hs1 := Nat.lt_of_succ_le hz1); (try have hs2 := Nat.lt_of_succ_lt hs1); (try have y0 : w.heap.size < w1.heap.size := by omega); (try have y1 : w.heap.size + 1 < w1.heap.size := by omega); (try have y2 : w.heap.size + 2 < w1.heap.size := by omega)))
        go_roundw
        case rel => exact ⟨i', HI', rfl, HW.out.trans (hb1.mono HW.out.size)⟩
        case measure => exact HMS.out
    · have e : i = n := by have := Hi.out; omega
      have HR : Hid ((-1 : Int) = v) := by show (-1 : Int) = v; rw [HV.out, if_neg (by have := Hi.out; omega)]
      have T0 : decide ((i : Int) < (n : Int)) = false := by simp <;> omega
      have T0' : decide (i < n) = false := decide_eq_false hlt
      clear e hlt
      go_wp2_with fail
      go_ret
      exact ⟨ret_int HR.out, HW.out⟩
theorem has_bad (b off n c : Nat) (C : Nat → Nat) (w : World) (h2 : n ≤ 1000) (ht : (b < w.heap.size ∧ ∀ k, k < n → w.cell? ⟨b, off + k, none⟩ = some (.int .u8 (C k : Int)))) (hC : ∀ k, k < n → C k < 256) (f : Bool) (hf : f = true ↔ ∃ j, j < n ∧ (fun j => decide (C j < 33 ∨ 126 < C j)) j = true) :
    Calls Tryz.prog 49 #[.slice (some ⟨b, off, none⟩) n c, .func (.func 50) #[] #[]] w fun e w' => e = .returned (.bool f) ∧ Below w.heap.size w w' := by
  obtain ⟨k, hk⟩ := first_ex (fun j => decide (C j < 33 ∨ 126 < C j)) n
  have hany := first_any hk
  have S := Lib.hid (find_bad b off n c k C w h2 ht hC hk _ rfl)
  by_cases hkn : k < n
  · have hft : f = true := hf.2 (hany.1 hkn)
    rw [if_pos hkn] at S
    have t : decide ((0 : Int) ≤ (k : Int)) = true := decide_eq_true (by omega)
    subst hft
    clear hk hany hkn hf ht h2
    go_enter Tryz.func49, Tryz.ntmps49
    go_wp2_with (first | (go_at_call 77; (with_reducible refine (S.out).mono ?_); rintro e w1 ⟨rfl, hb1⟩; obtain ⟨hc1, hf1⟩ := bcell hb1; have hz1 := hb1.size; (try simp at hz1); (try simp only [heap_drew, World.heap_drewN] at hz1); (try simp only [heap_drew, World.heap_drewN] at hc1); (try simp only [heap_drew, World.heap_drewN] at hf1); (try have hs1 := Nat.lt_of_succ_le hz1); (try have hs2 := Nat.lt_of_succ_lt hs1); (try have y0 : w.heap.size < w1.heap.size := by omega); (try have y1 : w.heap.size + 1 < w1.heap.size := by omega); (try have y2 : w.heap.size + 2 < w1.heap.size := by omega)))
    go_ret
    refine ⟨rfl, ?_⟩
    (repeat' (first | assumption | exact Below.refl _ _ | exact Below.size (by assumption) | (refine Below.setCell ?_ ?_ _) | (refine Below.alloc ?_ ?_ _) | (refine Below.drew ?_) | (refine below_drewN ?_ _) | (refine Below.trans ?_ (Below.mono ‹Below _ _ _› ?_)) | omega | (simp; done) | (simp; omega) | (simp at *; omega)))
  · have hft : f = false := by
      cases f with
      | false => rfl
      | true => exact absurd (hany.2 (hf.1 rfl)) hkn
    rw [if_neg hkn] at S
    subst hft
    clear hk hany hkn hf ht h2
    go_enter Tryz.func49, Tryz.ntmps49
    go_wp2_with (first | (go_at_call 77; (with_reducible refine (S.out).mono ?_); rintro e w1 ⟨rfl, hb1⟩; obtain ⟨hc1, hf1⟩ := bcell hb1; have hz1 := hb1.size; (try simp at hz1); (try simp only [heap_drew, World.heap_drewN] at hz1); (try simp only [heap_drew, World.heap_drewN] at hc1); (try simp only [heap_drew, World.heap_drewN] at hf1); (try have hs1 := Nat.lt_of_succ_le hz1); (try have hs2 := Nat.lt_of_succ_lt hs1); (try have y0 : w.heap.size < w1.heap.size := by omega); (try have y1 : w.heap.size + 1 < w1.heap.size := by omega); (try have y2 : w.heap.size + 2 < w1.heap.size := by omega)))
    go_ret
    refine ⟨rfl, ?_⟩
    (repeat' (first | assumption | exact Below.refl _ _ | exact Below.size (by assumption) | (refine Below.setCell ?_ ?_ _) | (refine Below.alloc ?_ ?_ _) | (refine Below.drew ?_) | (refine below_drewN ?_ _) | (refine Below.trans ?_ (Below.mono ‹Below _ _ _› ?_)) | omega | (simp; done) | (simp; omega) | (simp at *; omega)))

set_option maxHeartbeats 2000000 in
theorem find_wide (A : Option Addr) (n c k : Nat) (X : Nat → ByteArray) (W : Int) (g : Nat) (w : World) (h2 : n ≤ 1000) (ht : StrIn w A n X) (hy : w.cell? ⟨g, 0, none⟩ = some (.int .i64 W)) (hg : g < w.heap.size) (hk : FirstAt (fun j => decide (W < ((X j).size : Int))) n k) (v : Int) (hv : v = if k < n then (k : Int) else -1) :
    Calls Tryz.prog 54 #[.slice A n c, .func (.func 51) #[] #[.pointer (some ⟨g, 0, none⟩)]] w fun e w' => e = .returned (.int .i64 v) ∧ Below w.heap.size w w' := by
  have HT := Lib.hid ht
  have HK := Lib.hid hk
  have H2 := Lib.hid h2
  have HV := Lib.hid hv
  have HY := Lib.hid hy
  clear hy
  clear ht hk h2 hv
  go_enter Tryz.func54, Tryz.ntmps54
  go_wp2_with fail
  go_loopw [8] (fun u wr => ∃ i : Nat, Hid (i ≤ n ∧ i ≤ k) ∧ u = .int .i64 i ∧ Hid (Below w.heap.size w wr)) (fun u _ => n - (intOf u).toNat)
  case atStart => exact ⟨0, ⟨Nat.zero_le _, Nat.zero_le _⟩, rfl, Below.refl _ _⟩
  case round =>
    obtain ⟨i, Hi, rfl, HW⟩ := hrel
    by_cases hlt : i < n
    · have T0 : decide ((i : Int) < (n : Int)) = true := by simp <;> omega
      have T0' : decide (i < n) = true := decide_eq_true hlt
      obtain ⟨i', hi'⟩ : ∃ z, z = i + 1 := ⟨_, rfl⟩
      have x0 : IntKind.i64.wrap ((i : Int) + 1) = (i' : Int) := by have := H2.out; rw [IntKind.wrap_i64]; omega
      obtain ⟨b, off, rfl, hb, hX⟩ := (HT.out.below (Nat.le_refl _) HW.out).at hlt
      have k0 : (0 : Int) ≤ (i : Int) := by omega
      have k1 : (i : Int) < (n : Int) := by omega
      have hyr : wr.cell? ⟨g, 0, none⟩ = some (.int .i64 W) := (HW.out.cell (p := ⟨g, 0, none⟩) hg).trans HY.out
      have hgr : g < wr.heap.size := Nat.lt_of_lt_of_le hg HW.out.size
      have HMS : Hid (n - (intOf (Value.int .i64 (i' : Int))).toNat < n - (intOf (Value.int .i64 (i : Int))).toNat) := by show _ < _; simp [intOf]; omega
      rcases first_at HK.out hlt Hi.out.2 with ⟨hp, hik⟩ | ⟨hp, hik⟩
      · have KK := Lib.hid (p_wide (X i) W g true hp.symm wr hyr hgr)
        have HR : Hid ((i : Int) = v) := by show (i : Int) = v; rw [HV.out, hik, if_pos (by omega)]
        clear hi' hp hik hyr hgr
        go_wp2_with (first | (go_at_call 51; (with_reducible refine (KK.out).mono ?_); rintro e w1 ⟨rfl, hb1⟩; obtain ⟨hc1, hf1⟩ := bcell hb1; have hz1 := hb1.size; (try simp at hz1); (try simp only [heap_drew, World.heap_drewN] at hz1); (try simp only [heap_drew, World.heap_drewN] at hc1); (try simp only [heap_drew, World.heap_drewN] at hf1); (try have hs1 := Nat.lt_of_succ_le hz1); (try have hs2 := Nat.lt_of_succ_lt hs1); (try have y0 : w.heap.size < w1.heap.size := by omega); (try have y1 : w.heap.size + 1 < w1.heap.size := by omega); (try have y2 : w.heap.size + 2 < w1.heap.size := by omega)))
        go_ret
        refine ⟨ret_int HR.out, ?_⟩
        have := HW.out
        (repeat' (first | assumption | exact Below.refl _ _ | exact Below.size (by assumption) | (refine Below.setCell ?_ ?_ _) | (refine Below.alloc ?_ ?_ _) | (refine Below.drew ?_) | (refine below_drewN ?_ _) | (refine Below.trans ?_ (Below.mono ‹Below _ _ _› ?_)) | omega | (simp; done) | (simp; omega) | (simp at *; omega)))
      · have KK := Lib.hid (p_wide (X i) W g false hp.symm wr hyr hgr)
        have HI' : Hid (i' ≤ n ∧ i' ≤ k) := by show _ ∧ _; omega
        clear hi' hp hik hyr hgr
        go_wp2_with (first | (go_at_call 51; (with_reducible refine (KK.out).mono ?_); rintro e w1 ⟨rfl, hb1⟩; obtain ⟨hc1, hf1⟩ := bcell hb1; have hz1 := hb1.size; (try simp at hz1); (try simp only [heap_drew, World.heap_drewN] at hz1); (try simp only [heap_drew, World.heap_drewN] at hc1); (try simp only [heap_drew, World.heap_drewN] at hf1); (try have hs1 := Nat.lt_of_succ_le hz1); (try have hs2 := Nat.lt_of_succ_lt hs1); (try have y0 : w.heap.size < w1.heap.size := by omega); (try have y1 : w.heap.size + 1 < w1.heap.size := by omega); (try have y2 : w.heap.size + 2 < w1.heap.size := by omega)))
        go_roundw
        case rel => exact ⟨i', HI', rfl, HW.out.trans (hb1.mono HW.out.size)⟩
        case measure => exact HMS.out
    · have e : i = n := by have := Hi.out; omega
      have HR : Hid ((-1 : Int) = v) := by show (-1 : Int) = v; rw [HV.out, if_neg (by have := Hi.out; omega)]
      have T0 : decide ((i : Int) < (n : Int)) = false := by simp <;> omega
      have T0' : decide (i < n) = false := decide_eq_false hlt
      clear e hlt
      go_wp2_with fail
      go_ret
      exact ⟨ret_int HR.out, HW.out⟩
theorem has_wide (A : Option Addr) (n c : Nat) (X : Nat → ByteArray) (W : Int) (g : Nat) (w : World) (h2 : n ≤ 1000) (ht : StrIn w A n X) (hy : w.cell? ⟨g, 0, none⟩ = some (.int .i64 W)) (hg : g < w.heap.size) (f : Bool) (hf : f = true ↔ ∃ j, j < n ∧ (fun j => decide (W < ((X j).size : Int))) j = true) :
    Calls Tryz.prog 26 #[.slice A n c, .func (.func 51) #[] #[.pointer (some ⟨g, 0, none⟩)]] w fun e w' => e = .returned (.bool f) ∧ Below w.heap.size w w' := by
  obtain ⟨k, hk⟩ := first_ex (fun j => decide (W < ((X j).size : Int))) n
  have hany := first_any hk
  have S := Lib.hid (find_wide A n c k X W g w h2 ht hy hg hk _ rfl)
  by_cases hkn : k < n
  · have hft : f = true := hf.2 (hany.1 hkn)
    rw [if_pos hkn] at S
    have t : decide ((0 : Int) ≤ (k : Int)) = true := decide_eq_true (by omega)
    subst hft
    clear hk hany hkn hf ht h2
    go_enter Tryz.func26, Tryz.ntmps26
    go_wp2_with (first | (go_at_call 54; (with_reducible refine (S.out).mono ?_); rintro e w1 ⟨rfl, hb1⟩; obtain ⟨hc1, hf1⟩ := bcell hb1; have hz1 := hb1.size; (try simp at hz1); (try simp only [heap_drew, World.heap_drewN] at hz1); (try simp only [heap_drew, World.heap_drewN] at hc1); (try simp only [heap_drew, World.heap_drewN] at hf1); (try have hs1 := Nat.lt_of_succ_le hz1); (try have hs2 := Nat.lt_of_succ_lt hs1); (try have y0 : w.heap.size < w1.heap.size := by omega); (try have y1 : w.heap.size + 1 < w1.heap.size := by omega); (try have y2 : w.heap.size + 2 < w1.heap.size := by omega)))
    go_ret
    refine ⟨rfl, ?_⟩
    (repeat' (first | assumption | exact Below.refl _ _ | exact Below.size (by assumption) | (refine Below.setCell ?_ ?_ _) | (refine Below.alloc ?_ ?_ _) | (refine Below.drew ?_) | (refine below_drewN ?_ _) | (refine Below.trans ?_ (Below.mono ‹Below _ _ _› ?_)) | omega | (simp; done) | (simp; omega) | (simp at *; omega)))
  · have hft : f = false := by
      cases f with
      | false => rfl
      | true => exact absurd (hany.2 (hf.1 rfl)) hkn
    rw [if_neg hkn] at S
    subst hft
    clear hk hany hkn hf ht h2
    go_enter Tryz.func26, Tryz.ntmps26
    go_wp2_with (first | (go_at_call 54; (with_reducible refine (S.out).mono ?_); rintro e w1 ⟨rfl, hb1⟩; obtain ⟨hc1, hf1⟩ := bcell hb1; have hz1 := hb1.size; (try simp at hz1); (try simp only [heap_drew, World.heap_drewN] at hz1); (try simp only [heap_drew, World.heap_drewN] at hc1); (try simp only [heap_drew, World.heap_drewN] at hf1); (try have hs1 := Nat.lt_of_succ_le hz1); (try have hs2 := Nat.lt_of_succ_lt hs1); (try have y0 : w.heap.size < w1.heap.size := by omega); (try have y1 : w.heap.size + 1 < w1.heap.size := by omega); (try have y2 : w.heap.size + 2 < w1.heap.size := by omega)))
    go_ret
    refine ⟨rfl, ?_⟩
    (repeat' (first | assumption | exact Below.refl _ _ | exact Below.size (by assumption) | (refine Below.setCell ?_ ?_ _) | (refine Below.alloc ?_ ?_ _) | (refine Below.drew ?_) | (refine below_drewN ?_ _) | (refine Below.trans ?_ (Below.mono ‹Below _ _ _› ?_)) | omega | (simp; done) | (simp; omega) | (simp at *; omega)))

end Go.Proofs.YtdgfljkhnifemaaGreatDoor

namespace Go.Proofs.YtdgfljkhnifemaaGreatDoor
open Go.RowKit
set_option linter.unusedVariables false
set_option linter.unusedSimpArgs false

theorem size_list (o : ByteArray) : o.size = o.data.toList.length := (Array.length_toList (xs := o.data)).symm
def dmeas (a b : Value) : Nat := (intOf a).toNat + (match b with | .string s => if s.size = 0 then 1 else 0 | _ => 0)
theorem dmeas_eq (N : Nat) (o : ByteArray) : dmeas (.int .i64 (N : Int)) (.string o) = N + (if o.size = 0 then 1 else 0) := by unfold dmeas; simp [intOf]
def DInv (u N : Nat) (o : ByteArray) : Prop := (o.data.toList = [] ∧ N = u) ∨ (0 < N ∧ 0 < o.size ∧ Lib.decDigits u = Lib.decDigits N ++ o.data.toList) ∨ (N = 0 ∧ 0 < o.size ∧ o.data.toList = Lib.decDigits u)
theorem DInv.size {u N : Nat} {o : ByteArray} (h : DInv u N o) (hu : u < 9223372036854775808) : o.size ≤ 30 := by
  have h19 : (Lib.decDigits u).length ≤ 19 := by
    rw [Lib.decDigits_length]
    exact nDigits_le 19 u (by decide) (Nat.lt_of_lt_of_le hu (by decide))
  have e := size_list o
  rcases h with ⟨h, _⟩ | ⟨_, _, h⟩ | ⟨_, _, h⟩
  · rw [e, h]; simp
  · rw [h, List.length_append] at h19; omega
  · rw [e, h]; omega
theorem DInv.step {u N : Nat} {o b : ByteArray} (h : DInv u N o) (hN : 0 < N ∨ o.size = 0) (hb : b.data.toList = [UInt8.ofNat (48 + N % 10)]) : DInv u (N / 10) (b ++ o) := by
  have es : (b ++ o).data.toList = UInt8.ofNat (48 + N % 10) :: o.data.toList := by rw [ByteArray.data_append]; simp [hb]
  have e1 : 0 < (b ++ o).size := by
    rw [size_list, es]; simp
  have key : Lib.decDigits u = Lib.decDigits N ++ o.data.toList := by
    rcases h with ⟨h, rfl⟩ | ⟨_, _, h⟩ | ⟨h0, h1, _⟩
    · rw [h, List.append_nil]
    · exact h
    · omega
  by_cases h10 : N < 10
  · refine .inr (.inr ⟨by omega, e1, ?_⟩)
    rw [es, key, Lib.decDigits_one h10, Nat.mod_eq_of_lt h10]
    rfl
  · refine .inr (.inl ⟨by omega, e1, ?_⟩)
    rw [es, key]
    conv => lhs; rw [Lib.decDigits, dif_neg h10]
    simp
theorem DInv.done {u : Nat} {o : ByteArray} (h : DInv u 0 o) (ho : 0 < o.size) : o.data.toList = Lib.decDigits u := by
  rcases h with ⟨h, _⟩ | ⟨h, _⟩ | ⟨_, _, h⟩
  · have := size_list o
    rw [h] at this; simp only [List.length_nil] at this; omega
  · omega
  · exact h
theorem list_of {o : ByteArray} {t : List UInt8} (h : o.data.toList = t) : o = ⟨t.toArray⟩ := by subst h; obtain ⟨⟨l⟩⟩ := o; rfl
set_option maxRecDepth 100000 in
set_option maxHeartbeats 1000000 in
theorem rdigits (u : Nat) (hu : u < 9223372036854775808) (w : World) :
    Calls Tryz.prog 95 #[.int .i64 (u : Int), .int .i64 1] w fun e w' => e = .returned (.string ⟨(Lib.decDigits u).toArray⟩) ∧ Below w.heap.size w w' := by
  have HU := Lib.hid hu
  clear hu
  go_enter Tryz.func95, Tryz.ntmps95
  go_wp2_with fail
  go_loopw [0, 5] (fun a b wr => ∃ (N : Nat) (o : ByteArray), Hid (DInv u N o) ∧ Hid (N ≤ u) ∧ a = .int .i64 N ∧ b = .string o ∧ Hid (Below w.heap.size w wr)) (fun a b _ => dmeas a b)
  case atStart => exact ⟨u, ByteArray.empty, .inl ⟨rfl, rfl⟩, Nat.le_refl _, rfl, rfl, Below.refl _ _⟩
  case round =>
    obtain ⟨N, o, HI, HN, rfl, rfl, HW⟩ := hrel
    have hos := HI.out.size HU.out
    by_cases h0 : 0 < N ∨ o.size = 0
    · obtain ⟨q, hq⟩ : ∃ z, z = N / 10 := ⟨_, rfl⟩
      obtain ⟨r, hr⟩ : ∃ z, z = N % 10 := ⟨_, rfl⟩
      obtain ⟨c, hc⟩ : ∃ z, z = 48 + r := ⟨_, rfl⟩
      have v1 : Int.tmod (N : Int) 10 = (r : Int) := by rw [hr]; exact Int.ofNat_tmod N 10
      have v1' : (N : Int) % 10 = (r : Int) := by omega
      have v2 : Int.tdiv (N : Int) 10 = (q : Int) := by rw [hq]; exact Int.ofNat_tdiv N 10
      have v2' : (N : Int) / 10 = (q : Int) := by omega
      have v3 : IntKind.i64.wrap (48 + (r : Int)) = (c : Int) := by rw [IntKind.wrap_i64]; omega
      have v4 : IntKind.u8.wrap (c : Int) = (c : Int) := by unfold IntKind.wrap; simp [IntKind.bits, IntKind.signed]; omega
      have v5 : IntKind.i64.wrap (q : Int) = (q : Int) := by rw [IntKind.wrap_i64]; have := HN.out; have := HU.out; omega
      have hbn : (UInt8.ofNat c).toNat = c := by rw [hc]; exact digit_nat (by omega)
      obtain ⟨b, hbb⟩ : ∃ b : ByteArray, b = ⟨#[UInt8.ofNat c]⟩ := ⟨_, rfl⟩
      have hcv : (convert 81 9 (.slice (some ⟨wr.heap.size, 0, none⟩) 1 1)).run Tryz.prog (wr.alloc (.cells #[.int .u8 (c : Int)] 5)) = .ok (.string b) (wr.alloc (.cells #[.int .u8 (c : Int)] 5)) := by
        rw [hbb]
        exact run_convert_bytes_back (P := Tryz.prog) (wr.alloc (.cells #[.int .u8 (c : Int)] 5)) 81 9 5 ⟨wr.heap.size, 0, none⟩ 1 [UInt8.ofNat c] Tryz.underlying81 Tryz.underlying5 Tryz.underlying9 (fun j hj => by
          obtain rfl : j = 0 := by simpa using hj
          simp [Addr.add, hbn])
      have hbs : b.size = 1 := by rw [hbb]; rfl
      have HS : Hid (DInv u q (b ++ o)) := by rw [hq]; exact HI.out.step h0 (by rw [hbb, hc, hr])
      have HQ : Hid (q ≤ u) := by show q ≤ u; have := HN.out; omega
      have hbos : (b ++ o).size = 1 + o.size := by rw [ByteArray.size_append, hbs]
      have HMS : Hid (q + (if (b ++ o).size = 0 then 1 else 0) < N + (if o.size = 0 then 1 else 0)) := by
        show _ < _
        rw [hbos, if_neg (by omega)]
        split <;> omega
      by_cases hN : 0 < N
      · have t0 : decide ((0 : Int) < (N : Int)) = true := decide_eq_true (by omega)
        have t0' : decide (0 < N) = true := decide_eq_true hN
        clear h0 hq hr hc hbn hbb hN hbos
        go_wp2_with fail
        go_roundw
        case rel => exact ⟨q, b ++ o, HS, HQ, rfl, rfl, HW.out.alloc HW.out.size _⟩
        case measure => rw [dmeas_eq, dmeas_eq]; exact HMS.out
      · have t0 : decide ((0 : Int) < (N : Int)) = false := decide_eq_false (by omega)
        have t0' : decide (0 < N) = false := decide_eq_false hN
        have hz : o.size = 0 := by omega
        clear h0 hq hr hc hbn hbb hN hbos
        go_wp2_with fail
        go_roundw
        case rel => exact ⟨q, b ++ o, HS, HQ, rfl, rfl, HW.out.alloc HW.out.size _⟩
        case measure => rw [dmeas_eq, dmeas_eq]; exact HMS.out
    · have hN : N = 0 := by omega
      have t0 : decide ((0 : Int) < (N : Int)) = false := decide_eq_false (by omega)
      have t0' : decide (0 < N) = false := decide_eq_false (by omega)
      have HI' : Hid (DInv u 0 o) := by rw [← hN]; exact HI
      have ho : ¬ o.size = 0 := by omega
      have ho' : decide ((o.size : Int) < 1) = false := decide_eq_false (by omega)
      have HR : Hid (o = ⟨(Lib.decDigits u).toArray⟩) := list_of (HI'.out.done (by omega))
      clear h0 hN
      go_wp2_with fail
      go_ret
      exact ⟨by rw [HR.out]; rfl, HW.out⟩
theorem dec_size {u : Nat} (hu : u < 9223372036854775808) : (⟨(Lib.decDigits u).toArray⟩ : ByteArray).size ≤ 19 := by
  have e : (⟨(Lib.decDigits u).toArray⟩ : ByteArray).size = (Lib.decDigits u).length := rfl
  rw [e, Lib.decDigits_length]
  exact nDigits_le 19 u (by decide) (Nat.lt_of_lt_of_le hu (by decide))
theorem rformat (v : Int) (h1 : -9223372036854775808 < v) (h2 : v < 9223372036854775808) (w : World) :
    Calls Tryz.prog 69 #[.int .i64 v, .int .i64 0] w fun e w' => e = .returned (.string ⟨(Lib.itoa v).toArray⟩) ∧ Below w.heap.size w w' := by
  by_cases hv : v < 0
  · obtain ⟨u, hu⟩ : ∃ u : Nat, u = v.natAbs := ⟨_, rfl⟩
    have S := fun w => rdigits u (by omega) w
    have hs := dec_size (u := u) (by omega)
    have e1 : IntKind.i64.wrap (0 - v) = (u : Int) := by rw [IntKind.wrap_i64]; omega
    have e1' : IntKind.i64.wrap (-v) = (u : Int) := by rw [IntKind.wrap_i64]; omega
    have t1 : decide (v < 0) = true := decide_eq_true hv
    obtain ⟨d, hd⟩ : ∃ d : ByteArray, d = ⟨(Lib.decDigits u).toArray⟩ := ⟨_, rfl⟩
    rw [← hd] at S hs
    have S := Lib.hid S
    have HR : Hid ((⟨#[45]⟩ : ByteArray) ++ d = ⟨(Lib.itoa v).toArray⟩) := by
      show _ = _
      rw [itoa_neg' hv, ← hu]
      refine list_of ?_
      rw [ByteArray.data_append, hd]; simp
    clear hu hd hv h1 h2
    go_enter Tryz.func69, Tryz.ntmps69
    go_wp2_with (first | (go_at_call 95; (with_reducible refine (S.out _).mono ?_); rintro e w1 ⟨rfl, hb1⟩; obtain ⟨hc1, hf1⟩ := bcell hb1; have hz1 := hb1.size; (try simp at hz1); (try simp only [heap_drew, World.heap_drewN] at hz1); (try simp only [heap_drew, World.heap_drewN] at hc1); (try simp only [heap_drew, World.heap_drewN] at hf1); (try have hs1 := Nat.lt_of_succ_le hz1); (try have hs2 := Nat.lt_of_succ_lt hs1); (try have y0 : w.heap.size < w1.heap.size := by omega); (try have y1 : w.heap.size + 1 < w1.heap.size := by omega); (try have y2 : w.heap.size + 2 < w1.heap.size := by omega)))
    go_ret
    refine ⟨by rw [← HR.out]; rfl, ?_⟩
    (repeat' (first | assumption | exact Below.refl _ _ | exact Below.size (by assumption) | (refine Below.setCell ?_ ?_ _) | (refine Below.alloc ?_ ?_ _) | (refine Below.drew ?_) | (refine below_drewN ?_ _) | (refine Below.trans ?_ (Below.mono ‹Below _ _ _› ?_)) | omega | (simp; done) | (simp; omega) | (simp at *; omega)))
  · obtain ⟨u, hu⟩ : ∃ u : Nat, u = v.toNat := ⟨_, rfl⟩
    have S := fun w => rdigits u (by omega) w
    have hs := dec_size (u := u) (by omega)
    obtain ⟨d, hd⟩ : ∃ d : ByteArray, d = ⟨(Lib.decDigits u).toArray⟩ := ⟨_, rfl⟩
    rw [← hd] at S hs
    have S := Lib.hid S
    have hvu : v = (u : Int) := by omega
    have HR : Hid ((⟨#[]⟩ : ByteArray) ++ d = ⟨(Lib.itoa v).toArray⟩) := by
      show _ = _
      rw [itoa_pos' hv, ← hu]
      refine list_of ?_
      rw [ByteArray.data_append, hd]; simp
    rw [hvu] at HR ⊢
    have t1 : decide ((u : Int) < 0) = false := decide_eq_false (by omega)
    clear hu hd hv h1 h2 hvu
    go_enter Tryz.func69, Tryz.ntmps69
    go_wp2_with (first | (go_at_call 95; (with_reducible refine (S.out _).mono ?_); rintro e w1 ⟨rfl, hb1⟩; obtain ⟨hc1, hf1⟩ := bcell hb1; have hz1 := hb1.size; (try simp at hz1); (try simp only [heap_drew, World.heap_drewN] at hz1); (try simp only [heap_drew, World.heap_drewN] at hc1); (try simp only [heap_drew, World.heap_drewN] at hf1); (try have hs1 := Nat.lt_of_succ_le hz1); (try have hs2 := Nat.lt_of_succ_lt hs1); (try have y0 : w.heap.size < w1.heap.size := by omega); (try have y1 : w.heap.size + 1 < w1.heap.size := by omega); (try have y2 : w.heap.size + 2 < w1.heap.size := by omega)))
    go_ret
    refine ⟨by rw [← HR.out]; rfl, ?_⟩
    (repeat' (first | assumption | exact Below.refl _ _ | exact Below.size (by assumption) | (refine Below.setCell ?_ ?_ _) | (refine Below.alloc ?_ ?_ _) | (refine Below.drew ?_) | (refine below_drewN ?_ _) | (refine Below.trans ?_ (Below.mono ‹Below _ _ _› ?_)) | omega | (simp; done) | (simp; omega) | (simp at *; omega)))
theorem rnum55 (v : Int) (h1 : -9223372036854775808 < v) (h2 : v < 9223372036854775808) (w : World) :
    Calls Tryz.prog 39 #[.int .i64 v] w fun e w' => e = .returned (.string ⟨(Lib.itoa v).toArray⟩) ∧ Below w.heap.size w w' := by
  have S := Lib.hid fun w => rformat v h1 h2 w
  obtain ⟨d, hd⟩ : ∃ d : ByteArray, d = ⟨(Lib.itoa v).toArray⟩ := ⟨_, rfl⟩
  rw [← hd] at S
  rw [← hd]
  clear hd h1 h2
  go_enter Tryz.func39, Tryz.ntmps39
  go_wp2_with (first | (go_at_call 69; (with_reducible refine (S.out _).mono ?_); rintro e w1 ⟨rfl, hb1⟩; obtain ⟨hc1, hf1⟩ := bcell hb1; have hz1 := hb1.size; (try simp at hz1); (try simp only [heap_drew, World.heap_drewN] at hz1); (try simp only [heap_drew, World.heap_drewN] at hc1); (try simp only [heap_drew, World.heap_drewN] at hf1); (try have hs1 := Nat.lt_of_succ_le hz1); (try have hs2 := Nat.lt_of_succ_lt hs1); (try have y0 : w.heap.size < w1.heap.size := by omega); (try have y1 : w.heap.size + 1 < w1.heap.size := by omega); (try have y2 : w.heap.size + 2 < w1.heap.size := by omega)))
  go_ret
  refine ⟨rfl, ?_⟩
  (repeat' (first | assumption | exact Below.refl _ _ | exact Below.size (by assumption) | (refine Below.setCell ?_ ?_ _) | (refine Below.alloc ?_ ?_ _) | (refine Below.drew ?_) | (refine below_drewN ?_ _) | (refine Below.trans ?_ (Below.mono ‹Below _ _ _› ?_)) | omega | (simp; done) | (simp; omega) | (simp at *; omega)))
end Go.Proofs.YtdgfljkhnifemaaGreatDoor

namespace Go.Proofs.YtdgfljkhnifemaaGreatDoor
open Go.RowKit
set_option linter.unusedVariables false
set_option linter.unusedSimpArgs false

def byt (s : ByteArray) (k : Nat) : Nat := (s.data.toList.getD k 0).toNat
theorem byt_lt (s : ByteArray) (k : Nat) : byt s k < 256 := (s.data.toList.getD k 0).toNat_lt
def badAt (s : ByteArray) : Prop := s.size = 0 ∨ ∃ j, j < s.size ∧ (byt s j < 33 ∨ 126 < byt s j)
def sp : ByteArray := ⟨#[32]⟩
/-- One more word: behind the last row, if it fits, else in a new one. -/
def putR (W : Int) (out : List ByteArray) (s : ByteArray) : List ByteArray :=
  if out = [] then [s] else if ((out.getD (out.length - 1) ByteArray.empty).size : Int) + 1 + (s.size : Int) ≤ W then out.set (out.length - 1) (out.getD (out.length - 1) ByteArray.empty ++ (sp ++ s)) else out ++ [s]
def rowsTo (W : Int) (X : Nat → ByteArray) : Nat → List ByteArray
  | 0 => []
  | i + 1 => putR W (rowsTo W X i) (X i)
theorem put_len (W : Int) (out : List ByteArray) (s : ByteArray) : (putR W out s).length ≤ out.length + 1 ∧ 0 < (putR W out s).length := by
  unfold putR
  by_cases h : out = []
  · rw [if_pos h]; simp
  · have : 0 < out.length := List.length_pos_iff.2 h
    rw [if_neg h]
    split
    · rw [List.length_set]; omega
    · rw [List.length_append]; simp
theorem rows_len (W : Int) (X : Nat → ByteArray) : ∀ i, (rowsTo W X i).length ≤ i ∧ (0 < i → 0 < (rowsTo W X i).length)
  | 0 => ⟨Nat.le_refl _, fun h => absurd h (by omega)⟩
  | i + 1 => by
    have h := put_len W (rowsTo W X i) (X i)
    have h2 := (rows_len W X i).1
    exact ⟨by show (putR W (rowsTo W X i) (X i)).length ≤ _; omega, fun _ => h.2⟩
theorem put_size {W : Int} {out : List ByteArray} {s : ByteArray} (h : ∀ x ∈ out, (x.size : Int) ≤ W) (hs : (s.size : Int) ≤ W) : ∀ x ∈ putR W out s, (x.size : Int) ≤ W := by
  intro x hx
  unfold putR at hx
  split at hx
  · rw [List.mem_singleton.1 hx]; exact hs
  · split at hx
    · rename_i hf
      rcases List.mem_or_eq_of_mem_set hx with h1 | h1
      · exact h x h1
      · rw [h1, ByteArray.size_append, ByteArray.size_append]
        have : sp.size = 1 := rfl
        omega
    · rcases List.mem_append.1 hx with h1 | h1
      · exact h x h1
      · rw [List.mem_singleton.1 h1]; exact hs
theorem rows_size {W : Int} {X : Nat → ByteArray} : ∀ i, (∀ j, j < i → ((X j).size : Int) ≤ W) → ∀ x ∈ rowsTo W X i, (x.size : Int) ≤ W
  | 0, _ => fun x hx => absurd hx (by simp [rowsTo])
  | i + 1, h => put_size (rows_size i (fun j hj => h j (by omega))) (h i (by omega))
theorem put_nil {W : Int} {R : List ByteArray} {s : ByteArray} (h : R = []) : putR W R s = R ++ [s] := by subst h; rfl
theorem put_fit {W : Int} {R : List ByteArray} {s l : ByteArray} {k : Nat} (hk : R.length = k + 1) (hl : R.getD k ByteArray.empty = l) (hf : (l.size : Int) + 1 + (s.size : Int) ≤ W) : putR W R s = R.set k (l ++ (sp ++ s)) := by
  unfold putR
  rw [if_neg (by intro h; rw [h] at hk; simp at hk), show R.length - 1 = k by omega, hl, if_pos hf]
theorem put_new {W : Int} {R : List ByteArray} {s l : ByteArray} {k : Nat} (hk : R.length = k + 1) (hl : R.getD k ByteArray.empty = l) (hf : ¬ (l.size : Int) + 1 + (s.size : Int) ≤ W) : putR W R s = R ++ [s] := by
  unfold putR
  rw [if_neg (by intro h; rw [h] at hk; simp at hk), show R.length - 1 = k by omega, hl, if_neg hf]

/-- What Rows answers. -/
inductive RowsIs (W : Int) (n : Nat) (X : Nat → ByteArray) : List ByteArray → Int → Prop where
  | range (h : W < 1 ∨ 500 < W) : RowsIs W n X [] 2
  | form (h : 1 ≤ W ∧ W ≤ 500) (hb : ∃ i, i < n ∧ badAt (X i)) : RowsIs W n X [] 7
  | big (h : 1 ≤ W ∧ W ≤ 500) (hg : ∀ i, i < n → ¬ badAt (X i)) (hb : ∃ i, i < n ∧ W < ((X i).size : Int)) : RowsIs W n X [] 5
  | ok (h : 1 ≤ W ∧ W ≤ 500) (hg : ∀ i, i < n → ¬ badAt (X i)) (hs : ∀ i, i < n → ((X i).size : Int) ≤ W) : RowsIs W n X (rowsTo W X n) 0
theorem RowsIs.uniq {W : Int} {n : Nat} {X : Nat → ByteArray} {R R' : List ByteArray} {e e' : Int} (h : RowsIs W n X R e) (h' : RowsIs W n X R' e') : R = R' ∧ e = e' := by
  cases h with
  | range h => cases h' with
    | range h' => exact ⟨rfl, rfl⟩
    | form h' _ => omega
    | big h' _ _ => omega
    | ok h' _ _ => omega
  | form h hb => cases h' with
    | range h' => omega
    | form h' _ => exact ⟨rfl, rfl⟩
    | big h' hg _ => obtain ⟨i, hi, hx⟩ := hb; exact absurd hx (hg i hi)
    | ok h' hg _ => obtain ⟨i, hi, hx⟩ := hb; exact absurd hx (hg i hi)
  | big h hg hb => cases h' with
    | range h' => omega
    | form h' hb' => obtain ⟨i, hi, hx⟩ := hb'; exact absurd hx (hg i hi)
    | big h' _ _ => exact ⟨rfl, rfl⟩
    | ok h' _ hs => obtain ⟨i, hi, hx⟩ := hb; have := hs i hi; omega
  | ok h hg hs => cases h' with
    | range h' => omega
    | form h' hb' => obtain ⟨i, hi, hx⟩ := hb'; exact absurd hx (hg i hi)
    | big h' _ hb' => obtain ⟨i, hi, hx⟩ := hb'; have := hs i hi; omega
    | ok h' _ _ => exact ⟨rfl, rfl⟩
def sc (L : List ByteArray) : List Value := L.map Value.string
theorem sc_append (a b : List ByteArray) : sc (a ++ b) = sc a ++ sc b := by unfold sc; rw [List.map_append]
theorem sc_set (L : List ByteArray) (k : Nat) (x : ByteArray) : (sc L).set k (.string x) = sc (L.set k x) := by unfold sc; rw [List.map_set]
theorem sc_at {L : List ByteArray} {k : Nat} (h : k < L.length) : (sc L)[k]? = some (.string (L.getD k ByteArray.empty)) := by
  unfold sc; simp [List.getD, h]
/-- A row that is owned, as a slice of strings. -/
theorem str_of_own {w : World} {base g cap : Nat} {t : TypeId} {L : List ByteArray} (h : w.ownsRow base t 1 (.slice (some ⟨g, 0, none⟩) L.length cap) L.length (sc L)) : StrAt w g 0 L.length (fun k => L.getD k ByteArray.empty) := by
  refine ⟨(h.lt g rfl).2, fun k hk => ?_⟩
  rw [Nat.zero_add, h.cellAt k (by omega), sc_at hk]
/-- What a call of Rows leaves. -/
def RowsPost (w : World) (W : Int) (n : Nat) (X : Nat → ByteArray) (e : Ending) (w' : World) : Prop := ∃ (R : List ByteArray) (err : Int) (A : Option Addr) (cap N : Nat), N = R.length ∧ RowsIs W n X R err ∧
  e = .returned (.tuple #[.slice A N cap, .int .i64 err]) ∧ StrIn w' A N (fun k => R.getD k ByteArray.empty) ∧ Below w.heap.size w w' ∧ N ≤ cap
theorem rows_nil {w w' : World} {W : Int} {n : Nat} {X : Nat → ByteArray} {err : Int} (h : RowsIs W n X [] err) (hb : Below w.heap.size w w') : RowsPost w W n X (.returned (.tuple #[.slice none 0 0, .int .i64 err])) w' :=
  ⟨[], err, none, 0, 0, rfl, h, rfl, ⟨by omega, .inl rfl⟩, hb, Nat.le_refl _⟩
end Go.Proofs.YtdgfljkhnifemaaGreatDoor

namespace Go.Proofs.YtdgfljkhnifemaaGreatDoor
open Go.RowKit
set_option linter.unusedVariables false
set_option linter.unusedSimpArgs false

theorem infoS : (Tryz.prog.info? 9).map (fun i => (i.zero, i.size, i.bytes)) = some (some (.string ByteArray.empty), 1, 16) := by kernel_rfl
theorem h63_s {n : Nat} (h : n ≤ 300) : n + 1 ≤ maxLen := by simp only [maxLen]; omega
theorem hby_s {n : Nat} (h : n ≤ 300) : (n + 1) * 16 ≤ 140737488355328 := by omega
/-- What the loops keep: the cell of the width, and the frame. -/
def WMem (w wr : World) (g : Nat) (W : Int) : Prop := Blk wr g 3 #[.int .i64 W] ∧ Below w.heap.size w wr
theorem WMem.call {w wr w' : World} {g : Nat} {W : Int} (h : WMem w wr g W) (hb : Below wr.heap.size wr w') : WMem w w' g W := ⟨h.1.call hb, below_step h.2 hb⟩
/-- The rows that are owned. -/
def RMem5 (w wr : World) (u : Value) (N : Nat) (R : List ByteArray) : Prop := wr.ownsRow w.heap.size 9 1 u N (sc R) ∧ Below w.heap.size w wr
theorem RMem5.call {w wr w' : World} {u : Value} {N : Nat} {R : List ByteArray} (h : RMem5 w wr u N R) (hb : Below wr.heap.size wr w') : RMem5 w w' u N R := ⟨own_below h.1 hb, below_step h.2 hb⟩
theorem RMem5.app {w wr w' : World} {u v : Value} {N : Nat} {R : List ByteArray} {x : ByteArray} (h : RMem5 w wr u N R) {cs : Array Value} (hown : w'.ownsRow w.heap.size 9 1 v (N + 1) (sc R ++ [.string x])) (hg : (wr.alloc (.cells cs 9)).grownBy w' u.ownBlock) : RMem5 w w' v (N + 1) (R ++ [x]) :=
  ⟨by rw [sc_append]; exact hown, below_own (h.1.alloc _) (h.2.alloc h.2.size _) hg⟩
theorem RMem5.set {w wr : World} {g cap N k : Nat} {R : List ByteArray} {x : ByteArray} (h : RMem5 w wr (.slice (some ⟨g, 0, none⟩) N cap) N R) : RMem5 w (wr.setCell ⟨g, k, none⟩ (.string x)) (.slice (some ⟨g, 0, none⟩) N cap) N (R.set k x) := by
  refine ⟨?_, h.2.setCell (p := ⟨g, k, none⟩) (h.1.lt g rfl).1 _⟩
  have := (h.1.stored k (.string x)).1
  rw [sc_set] at this
  exact this
theorem RMem5.post {w w1 wr : World} {W : Int} {n : Nat} {X : Nat → ByteArray} {u : Value} {R : List ByteArray} {N : Nat} (h : RMem5 w1 wr u N R) (hw : Below w.heap.size w w1) (hN : N = R.length) (h300 : N ≤ 300) (hR : RowsIs W n X R 0) : RowsPost w W n X (.returned (.tuple #[u, .int .i64 0])) wr := by
  rcases h.1.2 with ⟨hv, h0⟩ | ⟨g, cap, cur, hv, _, _, hnc, _⟩
  · exact ⟨R, 0, none, 0, N, hN, hR, by rw [hv, h0], ⟨by omega, .inl h0⟩, below_step hw h.2, by omega⟩
  · have hown := h.1
    rw [hv, hN] at hown
    exact ⟨R, 0, some ⟨g, 0, none⟩, cap, N, hN, hR, by rw [hv], ⟨by omega, .inr ⟨g, 0, rfl, by rw [hN]; exact str_of_own hown⟩⟩, below_step hw h.2, hnc⟩
theorem RMem5.form {w wr : World} {u : Value} {N : Nat} {R : List ByteArray} (h : RMem5 w wr u N R) : ∃ A cap, u = .slice A N cap := by
  rcases h.1.2 with ⟨hv, h0⟩ | ⟨g, cap, cur, hv, _⟩
  · exact ⟨none, 0, by rw [hv, h0]⟩
  · exact ⟨_, cap, hv⟩
theorem bytes_cell (w : World) (s : ByteArray) : ∀ k, k < s.size → (Lib.bytesWorld w 5 s).cell? ⟨w.heap.size, 0 + k, none⟩ = some (.int .u8 (byt s k : Int)) := fun k hk => by
  rw [Nat.zero_add]
  exact Lib.bytesWorld_cell w _ s k hk
theorem empty_of {s : ByteArray} (h : s.size = 0) : s = ⟨#[]⟩ := list_of (List.eq_nil_of_length_eq_zero (by rw [← size_list]; exact h))
theorem not_empty {s : ByteArray} (h : s.size ≠ 0) : ¬ s.toList = [] := fun e => h (by rw [ByteArray.toList_eq] at e; rw [size_list, e]; rfl)
theorem badAt_iff (s : ByteArray) (hs : s.size ≠ 0) : badAt s ↔ ∃ j, j < s.size ∧ decide (byt s j < 33 ∨ 126 < byt s j) = true := by
  constructor
  · rintro (h | ⟨j, hj, h⟩)
    · exact absurd h hs
    · exact ⟨j, hj, decide_eq_true h⟩
  · rintro ⟨j, hj, h⟩
    exact .inr ⟨j, hj, of_decide_eq_true h⟩
set_option maxRecDepth 100000 in
set_option maxHeartbeats 4000000 in
theorem trows (A : Option Addr) (n c : Nat) (X : Nat → ByteArray) (W : Int) (h40 : n ≤ 40) (h600 : ∀ i, i < n → (X i).size ≤ 600) (w : World) (ht : StrIn w A n X) :
    Calls Tryz.prog 19 #[.slice A n c, .int .i64 W] w (RowsPost w W n X) := by
  have HT := Lib.hid ht
  have H40 := Lib.hid h40
  have H600 := Lib.hid h600
  by_cases hW : W < 1 ∨ 500 < W
  · have HR : Hid (RowsIs W n X [] 2) := .range hW
    by_cases h1 : W < 1
    · have t1 : decide (W < 1) = true := decide_eq_true h1
      clear hW h1 ht h40 h600
      go_enter Tryz.func19, Tryz.ntmps19
      go_wp2_with fail
      go_ret2
      exact rows_nil HR.out (by (repeat' (first | assumption | exact Below.refl _ _ | exact Below.size (by assumption) | (refine Below.setCell ?_ ?_ _) | (refine Below.alloc ?_ ?_ _) | (refine Below.drew ?_) | (refine below_drewN ?_ _) | (refine Below.trans ?_ (Below.mono ‹Below _ _ _› ?_)) | omega | (simp; done) | (simp; omega) | (simp at *; omega))))
    · have t1 : decide (W < 1) = false := decide_eq_false h1
      have t2 : decide ((500 : Int) < W) = true := decide_eq_true (by omega)
      clear hW h1 ht h40 h600
      go_enter Tryz.func19, Tryz.ntmps19
      go_wp2_with fail
      go_ret2
      exact rows_nil HR.out (by (repeat' (first | assumption | exact Below.refl _ _ | exact Below.size (by assumption) | (refine Below.setCell ?_ ?_ _) | (refine Below.alloc ?_ ?_ _) | (refine Below.drew ?_) | (refine below_drewN ?_ _) | (refine Below.trans ?_ (Below.mono ‹Below _ _ _› ?_)) | omega | (simp; done) | (simp; omega) | (simp at *; omega))))
  · have HWB : Hid (1 ≤ W ∧ W ≤ 500) := by show _ ∧ _; omega
    have t1 : decide (W < 1) = false := decide_eq_false (by omega)
    have t2 : decide ((500 : Int) < W) = false := decide_eq_false (by omega)
    clear hW ht h40 h600
    go_enter Tryz.func19, Tryz.ntmps19
    go_wp2_with fail
    have HM0 : Hid (WMem w (w.alloc (Obj.cells #[.int .i64 W] 3)) w.heap.size W) := ⟨Blk.new _ _ _, by (repeat' (first | assumption | exact Below.refl _ _ | exact Below.size (by assumption) | (refine Below.setCell ?_ ?_ _) | (refine Below.alloc ?_ ?_ _) | (refine Below.drew ?_) | (refine below_drewN ?_ _) | (refine Below.trans ?_ (Below.mono ‹Below _ _ _› ?_)) | omega | (simp; done) | (simp; omega) | (simp at *; omega)))⟩
    go_loopw [20] (fun u wr => ∃ i : Nat, Hid (i ≤ n) ∧ u = .int .i64 i ∧ Hid (∀ j, j < i → ¬ badAt (X j)) ∧ Hid (WMem w wr w.heap.size W)) (fun u _ => n - (intOf u).toNat)
    case atStart => exact ⟨0, Nat.zero_le _, rfl, fun j hj => absurd hj (Nat.not_lt_zero _), HM0⟩
    case round =>
      obtain ⟨i, Hi, rfl, HG, HM⟩ := hrel
      by_cases hlt : i < n
      · have T0 : decide ((i : Int) < (n : Int)) = true := by simp <;> omega
        have T0' : decide (i < n) = true := decide_eq_true hlt
        obtain ⟨i', hi'⟩ : ∃ z, z = i + 1 := ⟨_, rfl⟩
        have x0 : IntKind.i64.wrap ((i : Int) + 1) = (i' : Int) := by have := H40.out; rw [IntKind.wrap_i64]; omega
        have HI' : Hid (i' ≤ n) := by show i' ≤ n; omega
        have HMS : Hid (n - (intOf (Value.int .i64 (i' : Int))).toNat < n - (intOf (Value.int .i64 (i : Int))).toNat) := by show _ < _; simp [intOf]; omega
        have k0 : (0 : Int) ≤ (i : Int) := by omega
        have k1 : (i : Int) < (n : Int) := by omega
        obtain ⟨b, off, rfl, hb, hX⟩ := (HT.out.below (Nat.le_refl _) HM.out.2).at hlt
        obtain ⟨s, hs⟩ : ∃ z, z = X i := ⟨_, rfl⟩
        have hs6 : s.size ≤ 600 := by rw [hs]; exact H600.out i hlt
        rw [← hs] at hX
        by_cases hz : s.size = 0
        · have HR : Hid (RowsIs W n X [] 7) := .form HWB.out ⟨i, hlt, by rw [← hs]; exact .inl hz⟩
          rw [empty_of hz] at hX
          clear hi' hlt hs hz hs6
          go_wp2_with fail
          go_ret2
          exact rows_nil HR.out (by have := HM.out.2; (repeat' (first | assumption | exact Below.refl _ _ | exact Below.size (by assumption) | (refine Below.setCell ?_ ?_ _) | (refine Below.alloc ?_ ?_ _) | (refine Below.drew ?_) | (refine below_drewN ?_ _) | (refine Below.trans ?_ (Below.mono ‹Below _ _ _› ?_)) | omega | (simp; done) | (simp; omega) | (simp at *; omega))))
        · have u1 := not_empty hz
          have u3 : s.toList.isEmpty = false := by cases h : s.toList with | nil => exact absurd h u1 | cons a l => rfl
          have hcv := Lib.run_convert_string_bytes (P := Tryz.prog) wr 9 81 5 s Tryz.underlying9 Tryz.underlying81 Tryz.underlying5
          have hbw := Lib.bytesWorld_below wr 5 s
          have hbc := bytes_cell wr s
          have hbz : wr.heap.size < (Lib.bytesWorld wr 5 s).heap.size := by rw [Lib.bytesWorld_size]; omega
          generalize Lib.bytesWorld wr 5 s = wb at hcv hbw hbc hbz
          generalize grownCap wr s.size 0 5 = cb at hcv
          generalize hG : wr.heap.size = G at hcv hbc hbz
          have HBW := Lib.hid hbw
          have HBC : Hid (G < wb.heap.size ∧ ∀ k, k < s.size → wb.cell? ⟨G, 0 + k, none⟩ = some (.int .u8 (byt s k : Int))) := ⟨hbz, hbc⟩
          have HMB := Lib.hid (HM.out.call hbw)
          clear hbw hbc
          by_cases hbad : badAt s
          · have HR : Hid (RowsIs W n X [] 7) := .form HWB.out ⟨i, hlt, by rw [← hs]; exact hbad⟩
            have CB := Lib.hid fun (cap : Nat) (hh : G < wb.heap.size ∧ ∀ k, k < s.size → wb.cell? ⟨G, 0 + k, none⟩ = some (.int .u8 (byt s k : Int))) => has_bad G 0 s.size cap (byt s) wb (by omega) hh (fun k _ => byt_lt s k) true (by simp only [true_iff]; exact (badAt_iff s hz).1 hbad)
            clear hi' hlt hs hz hs6 hbad hbz
            go_wp2_with (first
              | (go_at_call 49
                 with_reducible refine (CB.out _ HBC.out).mono ?_
                 rintro e w4 ⟨rfl, hb4⟩
                 have HM4 := Lib.hid (HMB.out.call hb4)
                 clear hb4))
            go_ret2
            exact rows_nil HR.out HM4.out.2
          · have HG' : Hid (∀ j, j < i' → ¬ badAt (X j)) := by
              show ∀ j, j < i' → ¬ badAt (X j)
              intro j hj
              rcases Nat.lt_or_ge j i with g | g
              · exact HG.out j g
              · have : j = i := by omega
                rw [this, ← hs]; exact hbad
            have CB := Lib.hid fun (cap : Nat) (hh : G < wb.heap.size ∧ ∀ k, k < s.size → wb.cell? ⟨G, 0 + k, none⟩ = some (.int .u8 (byt s k : Int))) => has_bad G 0 s.size cap (byt s) wb (by omega) hh (fun k _ => byt_lt s k) false ⟨fun h => (by cases h), fun h => absurd ((badAt_iff s hz).2 h) hbad⟩
            clear hi' hlt hs hz hs6 hbad hbz
            go_wp2_with (first
              | (go_at_call 49
                 with_reducible refine (CB.out _ HBC.out).mono ?_
                 rintro e w4 ⟨rfl, hb4⟩
                 have HM4 := Lib.hid (HMB.out.call hb4)
                 clear hb4))
            go_roundw
            case rel => exact ⟨i', HI', rfl, HG', HM4⟩
            case measure => exact HMS.out
      · have hin : i = n := by have := Hi.out; omega
        have T0 : decide ((i : Int) < (n : Int)) = false := by simp <;> omega
        have T0' : decide (i < n) = false := decide_eq_false hlt
        rw [hin] at HG
        clear hlt hin
        have hcw := HM.out.1.cell 0
        have hcl := HM.out.1.lt
        simp only [List.getElem?_toArray, List.getElem?_cons_zero] at hcw
        by_cases hbig : ∃ j, j < n ∧ decide (W < ((X j).size : Int)) = true
        · have HR : Hid (RowsIs W n X [] 5) := .big HWB.out HG.out (by obtain ⟨j, hj, h⟩ := hbig; exact ⟨j, hj, of_decide_eq_true h⟩)
          have CW := Lib.hid (has_wide A n c X W w.heap.size wr (by have := H40.out; omega) (HT.out.below (Nat.le_refl _) HM.out.2) hcw hcl true (by simp only [true_iff]; exact hbig))
          clear hbig
          go_wp2_with (first
            | (go_at_call 26
               with_reducible refine CW.out.mono ?_
               rintro e w5 ⟨rfl, hb5⟩
               have HM5 := Lib.hid (HM.out.call hb5)
               clear hb5))
          go_ret2
          exact rows_nil HR.out HM5.out.2
        · have HSZ : Hid (∀ j, j < n → ((X j).size : Int) ≤ W) := by
            show ∀ j, j < n → ((X j).size : Int) ≤ W
            intro j hj
            have : ¬ W < ((X j).size : Int) := fun h => hbig ⟨j, hj, decide_eq_true h⟩
            omega
          have CW := Lib.hid (has_wide A n c X W w.heap.size wr (by have := H40.out; omega) (HT.out.below (Nat.le_refl _) HM.out.2) hcw hcl false ⟨fun h => (by cases h), fun h => absurd h hbig⟩)
          clear hbig
          obtain ⟨SI0, si0, sz0, sz1, sz2⟩ := info_parts1 infoS
          have SI1 := Lib.hid si0
          have SI2 := Lib.hid sz0
          have SI3 := Lib.hid sz1
          have SI4 := Lib.hid sz2
          clear si0 sz0 sz1 sz2 hcw hcl
          go_wp2_with (first
            | (go_at_call 26
               with_reducible refine CW.out.mono ?_
               rintro e w5 ⟨rfl, hb5⟩
               have HM5 := Lib.hid (HM.out.call hb5)
               clear hb5))
          go_loopw [8, 37] (fun u v wr => ∃ (i N : Nat) (R : List ByteArray), Hid (i ≤ n) ∧ Hid (R = rowsTo W X i) ∧ Hid (N = R.length) ∧ v = .int .i64 i ∧ Hid (RMem5 w5 wr u N R)) (fun _ v _ => n - (intOf v).toNat)
          case atStart => exact ⟨0, 0, [], Nat.zero_le _, rfl, rfl, rfl, World.ownsRow_nil _ _ _ _, Below.refl _ _⟩
          case round =>
            obtain ⟨i, N, R, Hi, HR, HN, rfl, HQ⟩ := hrel
            obtain ⟨A8, cap8, h8⟩ := HQ.out.form
            subst h8
            have HN300 : Hid (N ≤ 300) := by show N ≤ 300; have h1 := (rows_len W X i).1; have h2 := HN.out; have h3 := Hi.out; have h4 := H40.out; rw [HR.out] at h2; omega
            by_cases hlt : i < n
            · have T0 : decide ((i : Int) < (n : Int)) = true := by simp <;> omega
              have T0' : decide (i < n) = true := decide_eq_true hlt
              obtain ⟨i', hi'⟩ : ∃ z, z = i + 1 := ⟨_, rfl⟩
              have x0 : IntKind.i64.wrap ((i : Int) + 1) = (i' : Int) := by have := H40.out; rw [IntKind.wrap_i64]; omega
              have HI' : Hid (i' ≤ n) := by show i' ≤ n; omega
              have HMS : Hid (n - (intOf (Value.int .i64 (i' : Int))).toNat < n - (intOf (Value.int .i64 (i : Int))).toNat) := by show _ < _; simp [intOf]; omega
              have k0 : (0 : Int) ≤ (i : Int) := by omega
              have k1 : (i : Int) < (n : Int) := by omega
              have HWq : Hid (Below w.heap.size w wr) := below_step HM5.out.2 HQ.out.2
              obtain ⟨b, off, rfl, hb, hX⟩ := (HT.out.below (Nat.le_refl _) HWq.out).at hlt
              obtain ⟨s, hs⟩ : ∃ z, z = X i := ⟨_, rfl⟩
              have hs5 : s.size ≤ 500 := by have h1 := HSZ.out i hlt; have h2 := HWB.out; rw [← hs] at h1; omega
              rw [← hs] at hX
              have HNX : Hid (rowsTo W X i' = putR W R s) := by show _ = _; rw [hi', hs, HR.out]; rfl
              have HBQ := Lib.hid (HM5.out.1.below HQ.out.2 HM5.out.1.lt)
              have hcw := HBQ.out.cell 0
              have hcl := HBQ.out.lt
              simp only [List.getElem?_toArray, List.getElem?_cons_zero] at hcw
              clear hi' hlt hs
              cases N with
              | zero =>
                have e1 : IntKind.i64.wrap (((0 : Nat) : Int) - 1) = -1 := by rw [IntKind.wrap_i64]; omega
                have e1' : IntKind.i64.wrap ((0 : Int) - 1) = -1 := by rw [IntKind.wrap_i64]; omega
                have hR0 : R = [] := List.eq_nil_of_length_eq_zero HN.out.symm
                have HN2 : Hid (rowsTo W X i' = R ++ [s]) := by show _ = _; rw [HNX.out, put_nil hR0]
                clear hR0
                go_wp2_with fail
                go_cut [58] from 44 to 57 (fun z wx => z = .bool false ∧ RMem5 w5 wx (.slice A8 0 cap8) 0 R)
                case first =>
                  go_quiet (fail)
                  go_wp2_with fail
                  go_meet
                  exact ⟨by simp [*], HQ.out.call (by (repeat' (first | assumption | exact Below.refl _ _ | exact Below.size (by assumption) | (refine Below.setCell ?_ ?_ _) | (refine Below.alloc ?_ ?_ _) | (refine Below.drew ?_) | (refine below_drewN ?_ _) | (refine Below.trans ?_ (Below.mono ‹Below _ _ _› ?_)) | omega | (simp; done) | (simp; omega) | (simp at *; omega))))⟩
                case rest =>
                  obtain ⟨rfl, hmx⟩ := hcut
                  generalize wc = wx at hmx ⊢
                  have HMX := Lib.hid hmx
                  clear hmx
                  go_wp2_with (first
                    | (at_builtin; refine wpList_append_own_at _ ?paa (.tmp 67) (.tmp 69) 27 ?pab (w5.heap.size) 9 SI0 (.string ByteArray.empty) 1 16 Tryz.underlying27 SI1.out SI2.out SI3.out SI4.out ?pac ?pad (.slice A8 0 cap8) (0) (sc R) ?pae (HMX.out.1.alloc _) (⟨wx.heap.size, 0, none⟩) (1) (1) ([.string s]) ?pag (rfl) (World.news_of_block (cs := #[.string s]) (t := 9) (fr := (0, 0)) (heap_alloc_new _ _)) ((by simp [Value.oneCell'])) (h63_s HN300.out) (hby_s HN300.out) (Nat.le_trans HMX.out.2.size (by simp)) ?pah
                       case paa => exact rfl
                       case pab => exact rfl
                       case pac => exact rfl
                       case pad => decide
                       case pae => exact rfl
                       case pag => exact rfl
                       intro v2 w7 hown2 hgrow2 hnil2 hat2
                       have HM7 := Lib.hid (HMX.out.app hown2 hgrow2)
                       clear hown2 hgrow2 hnil2 hat2))
                  go_roundw
                  case rel => exact ⟨i', 0 + 1, R ++ [s], HI', HN2.out.symm, by show 0 + 1 = _; rw [List.length_append, ← HN.out]; rfl, rfl, HM7⟩
                  case measure => exact HMS.out
              | succ k =>
                have e1 : IntKind.i64.wrap (((k + 1 : Nat) : Int) - 1) = (k : Int) := by have := HN300.out; rw [IntKind.wrap_i64]; omega
                obtain ⟨N, hNk⟩ : ∃ z, z = k + 1 := ⟨_, rfl⟩
                rw [← hNk] at e1 HQ HN300 HN ⊢
                obtain ⟨g8, cp8, hv8, hg8, hl8⟩ := HQ.out.1.form (by omega)
                injection hv8 with ha8 hn8 hc8
                subst ha8
                obtain ⟨l, hl⟩ : ∃ z, z = R.getD k ByteArray.empty := ⟨_, rfl⟩
                have hkR : R.length = k + 1 := by rw [← HN.out, hNk]
                have hl5 : l.size ≤ 500 := by
                  have h1 := rows_size (W := W) (X := X) i (fun j hj => HSZ.out j (by have := Hi.out; omega)) l (by rw [← HR.out, hl]; exact (by rw [List.getD_eq_getElem?_getD, List.getElem?_eq_getElem (by omega)]; exact List.getElem_mem _))
                  have h2 := HWB.out
                  omega
                have HCL : Hid (∀ wz, RMem5 w5 wz (.slice (some ⟨g8, 0, none⟩) N cap8) N R → wz.cell? ⟨g8, k, none⟩ = some (.string l) ∧ wz.frozen? ⟨g8, k, none⟩ = false ∧ g8 < wz.heap.size) := fun wz h => ⟨by rw [h.1.cellAt k (by omega), sc_at (by omega), ← hl], h.1.frozenAt k, (h.1.lt g8 rfl).2⟩
                have c8 := (HCL.out _ HQ.out).1
                have kk0 : (0 : Int) ≤ (k : Int) := by omega
                have kk1 : (k : Int) < (N : Int) := by omega
                have kk2 : k < N := by omega
                obtain ⟨q1, hq1⟩ : ∃ z : Nat, z = l.size + 1 := ⟨_, rfl⟩
                obtain ⟨q2, hq2⟩ : ∃ z : Nat, z = q1 + s.size := ⟨_, rfl⟩
                have y1 : IntKind.i64.wrap ((l.size : Int) + 1) = (q1 : Int) := by rw [IntKind.wrap_i64]; omega
                have y2 : IntKind.i64.wrap ((q1 : Int) + (s.size : Int)) = (q2 : Int) := by rw [IntKind.wrap_i64]; omega
                have t0 : decide ((0 : Int) ≤ (k : Int)) = true := decide_eq_true kk0
                by_cases hfit : (q2 : Int) ≤ W
                · have t9 : decide ((q2 : Int) ≤ W) = true := decide_eq_true hfit
                  have HN2 : Hid (rowsTo W X i' = R.set k (l ++ (sp ++ s))) := by show _ = _; rw [HNX.out, put_fit hkR hl.symm (by omega)]
                  clear hNk hn8 hc8 hl hkR hq1 hq2 hfit
                  go_wp2_with fail
                  go_cut [58] from 44 to 57 (fun z wx => z = .bool true ∧ RMem5 w5 wx (.slice (some ⟨g8, 0, none⟩) N cap8) N R)
                  case first =>
                    go_quiet (fail)
                    go_wp2_with fail
                    go_meet
                    exact ⟨by simp [*], HQ.out.call (by (repeat' (first | assumption | exact Below.refl _ _ | exact Below.size (by assumption) | (refine Below.setCell ?_ ?_ _) | (refine Below.alloc ?_ ?_ _) | (refine Below.drew ?_) | (refine below_drewN ?_ _) | (refine Below.trans ?_ (Below.mono ‹Below _ _ _› ?_)) | omega | (simp; done) | (simp; omega) | (simp at *; omega))))⟩
                  case rest =>
                    obtain ⟨rfl, hmx⟩ := hcut
                    generalize wc = wx at hmx ⊢
                    have HMX := Lib.hid hmx
                    obtain ⟨c9, f9, l9⟩ := HCL.out _ hmx
                    clear hmx c8
                    go_wp2_with fail
                    have HM7 := Lib.hid (HMX.out.set (k := k) (x := l ++ (sp ++ s)))
                    go_roundw
                    case rel => exact ⟨i', N, R.set k (l ++ (sp ++ s)), HI', HN2.out.symm, by show N = _; rw [List.length_set]; exact HN.out, rfl, HM7⟩
                    case measure => exact HMS.out
                · have t9 : decide ((q2 : Int) ≤ W) = false := decide_eq_false hfit
                  have HN2 : Hid (rowsTo W X i' = R ++ [s]) := by show _ = _; rw [HNX.out, put_new hkR hl.symm (by omega)]
                  clear hNk hn8 hc8 hl hkR hq1 hq2 hfit
                  go_wp2_with fail
                  go_cut [58] from 44 to 57 (fun z wx => z = .bool false ∧ RMem5 w5 wx (.slice (some ⟨g8, 0, none⟩) N cap8) N R)
                  case first =>
                    go_quiet (fail)
                    go_wp2_with fail
                    go_meet
                    exact ⟨by simp [*], HQ.out.call (by (repeat' (first | assumption | exact Below.refl _ _ | exact Below.size (by assumption) | (refine Below.setCell ?_ ?_ _) | (refine Below.alloc ?_ ?_ _) | (refine Below.drew ?_) | (refine below_drewN ?_ _) | (refine Below.trans ?_ (Below.mono ‹Below _ _ _› ?_)) | omega | (simp; done) | (simp; omega) | (simp at *; omega))))⟩
                  case rest =>
                    obtain ⟨rfl, hmx⟩ := hcut
                    generalize wc = wx at hmx ⊢
                    have HMX := Lib.hid hmx
                    clear hmx c8
                    go_wp2_with (first
                      | (at_builtin; refine wpList_append_own_at _ ?pba (.tmp 67) (.tmp 69) 27 ?pbb (w5.heap.size) 9 SI0 (.string ByteArray.empty) 1 16 Tryz.underlying27 SI1.out SI2.out SI3.out SI4.out ?pbc ?pbd (.slice (some ⟨g8, 0, none⟩) N cap8) (N) (sc R) ?pbe (HMX.out.1.alloc _) (⟨wx.heap.size, 0, none⟩) (1) (1) ([.string s]) ?pbg (rfl) (World.news_of_block (cs := #[.string s]) (t := 9) (fr := (0, 0)) (heap_alloc_new _ _)) ((by simp [Value.oneCell'])) (h63_s HN300.out) (hby_s HN300.out) (Nat.le_trans HMX.out.2.size (by simp)) ?pbh
                         case pba => exact rfl
                         case pbb => exact rfl
                         case pbc => exact rfl
                         case pbd => decide
                         case pbe => exact rfl
                         case pbg => exact rfl
                         intro v2 w7 hown2 hgrow2 hnil2 hat2
                         have HM7 := Lib.hid (HMX.out.app hown2 hgrow2)
                         clear hown2 hgrow2 hnil2 hat2))
                    go_roundw
                    case rel => exact ⟨i', N + 1, R ++ [s], HI', HN2.out.symm, by show N + 1 = _; rw [List.length_append, HN.out]; rfl, rfl, HM7⟩
                    case measure => exact HMS.out
            · have hin : i = n := by have := Hi.out; omega
              have T0 : decide ((i : Int) < (n : Int)) = false := by simp <;> omega
              have T0' : decide (i < n) = false := decide_eq_false hlt
              have HRS : Hid (RowsIs W n X R 0) := by
                have h := RowsIs.ok HWB.out HG.out HSZ.out
                rw [← hin, ← HR.out, hin] at h
                exact h
              clear hlt hin
              go_wp2_with fail
              go_ret2
              exact HQ.out.post HM5.out.2 HN.out HN300.out HRS.out
end Go.Proofs.YtdgfljkhnifemaaGreatDoor

namespace Go.Proofs.YtdgfljkhnifemaaGreatDoor
open Go.RowKit
set_option linter.unusedVariables false
set_option linter.unusedSimpArgs false

theorem RMem5.drew {w wr : World} {u : Value} {N : Nat} {R : List ByteArray} (h : RMem5 w wr u N R) : RMem5 w wr.drew u N R := ⟨h.1.drew, h.2.drew⟩
end Go.Proofs.YtdgfljkhnifemaaGreatDoor

namespace Go.Proofs.YtdgfljkhnifemaaGreatDoor
open Go.RowKit
set_option linter.unusedVariables false
set_option linter.unusedSimpArgs false

/-- What the loop over the digits keeps. -/
def NInv (T : List UInt8) (i n d : Nat) : Prop := d ≤ 18 ∧ n < 10 ^ d ∧ ((i = 0 ∧ n = 0 ∧ d = 0) ∨ (0 < i ∧ dig (unsg T) 0 0 = dig (T.drop i) n d))
theorem byte_at (s : ByteArray) (k : Nat) (h : k < s.size) : s.data.toList.drop k = s[k] :: s.data.toList.drop (k + 1) := by
  have hl : k < s.data.toList.length := by rw [← size_list]; exact h
  rw [List.drop_eq_getElem_cons hl]
  congr 1
theorem NInv.start (T : List UInt8) : NInv T 0 0 0 := ⟨by omega, by decide, .inl ⟨rfl, rfl, rfl⟩⟩
/-- Where the loop looks at a byte that it does not pass over. -/
theorem NInv.here {s : ByteArray} {i n d : Nat} (h : NInv s.data.toList i n d) (hi : i < s.size) (hm : i = 0 → s[i] ≠ 45) : dig (unsg s.data.toList) 0 0 = dig (s[i] :: s.data.toList.drop (i + 1)) n d := by
  rcases h.2.2 with ⟨rfl, rfl, rfl⟩ | ⟨h0, e⟩
  · have e := byte_at s 0 hi
    rw [List.drop_zero] at e
    rw [unsg_not (by rw [e]; intro h; exact hm rfl (Option.some.inj h)), e]
    simp
  · rw [e, byte_at s i hi]
theorem NInv.lt {T : List UInt8} {i n d : Nat} (h : NInv T i n d) : n < 1000000000000000000 := by
  have := Nat.pow_le_pow_right (n := 10) (by decide) h.1
  rw [pow18] at this
  have := h.2.1
  omega
end Go.Proofs.YtdgfljkhnifemaaGreatDoor

namespace Go.Proofs.YtdgfljkhnifemaaGreatDoor
open Go.RowKit
set_option linter.unusedVariables false
set_option linter.unusedSimpArgs false

theorem tread_at {s l : ByteArray} {n e : Int} (hs : s.size ≤ 1000) (h : RdIs s l n e) (w : World) (hE : Env5 w) :
    Calls Tryz.prog 16 #[.string s] w fun e' w' => e' = .returned (.tuple #[.string l, .int .i64 n, .int .i64 e]) ∧ Below w.heap.size w w' := by
  obtain ⟨l', n', e2, h2, hc⟩ := tread s hs
  obtain ⟨rfl, rfl, rfl⟩ := h.uniq h2
  exact hc w hE
theorem range_at (X : Nat → ByteArray) (n : Nat) {j : Nat} (hj : j < n) : ((List.range n).map X).getD j ByteArray.empty = X j := by
  simp [List.getD, hj]
theorem sequal_same (A B : Option Addr) (n c d : Nat) (X : Nat → ByteArray) (w : World) (hA : StrIn w A n X) (hB : StrIn w B n X) :
    Calls Tryz.prog 13 #[.slice A n c, .slice B n d] w fun e w' => e = .returned (.bool true) ∧ Below w.heap.size w w' := by
  rcases hA.2 with h0 | ⟨b1, o1, rfl, h1⟩
  · subst h0
    refine (Tryz.slices_Equal_string_empty A B c 0 d w (by omega)).mono ?_
    rintro e w' ⟨he, rfl⟩
    exact ⟨by rw [he]; rfl, Below.refl _ _⟩
  · rcases hB.2 with h0 | ⟨b2, o2, rfl, h2⟩
    · subst h0
      refine (Tryz.slices_Equal_string_empty _ _ c 0 d w (by omega)).mono ?_
      rintro e w' ⟨he, rfl⟩
      exact ⟨by rw [he]; rfl, Below.refl _ _⟩
    · refine (Tryz.slices_Equal_string b1 o1 n c b2 o2 n d ((List.range n).map X) ((List.range n).map X) w (by simp) (by simp) hA.1 hA.1 (fun j hj => ?_) (fun j hj => ?_)).mono ?_
      · have hj' : j < n := by simpa using hj
        rw [range_at X n hj']; exact h1.2 j hj'
      · have hj' : j < n := by simpa using hj
        rw [range_at X n hj']; exact h2.2 j hj'
      · rintro e w' ⟨he, q, rfl⟩
        exact ⟨by rw [he]; simp, below_drewN (Below.refl _ _) _⟩

def awX : Nat → ByteArray := fun k => if k = 0 then ⟨#[97]⟩ else if k = 1 then ⟨#[98, 98]⟩ else ⟨#[99]⟩
def awR : List ByteArray := [⟨#[97, 32, 98, 98]⟩, ⟨#[99]⟩]
theorem aw_good (i : Nat) (hi : i < 3) : ¬ badAt (awX i) ∧ ((awX i).size : Int) ≤ 4 := by
  have : i = 0 ∨ i = 1 ∨ i = 2 := by omega
  rcases this with rfl | rfl | rfl
  · refine ⟨?_, by decide⟩
    rintro (h | ⟨j, hj, h⟩)
    · cases h
    · have hj' : j < 1 := hj
      obtain rfl : j = 0 := by omega
      revert h; decide
  · refine ⟨?_, by decide⟩
    rintro (h | ⟨j, hj, h⟩)
    · cases h
    · have hj' : j < 2 := hj
      have : j = 0 ∨ j = 1 := by omega
      rcases this with rfl | rfl <;> (revert h; decide)
  · refine ⟨?_, by decide⟩
    rintro (h | ⟨j, hj, h⟩)
    · cases h
    · have hj' : j < 1 := hj
      obtain rfl : j = 0 := by omega
      revert h; decide
theorem aw_rows_is : RowsIs 4 3 awX awR 0 := by
  have h := RowsIs.ok (W := 4) (n := 3) (X := awX) (by omega) (fun i hi => (aw_good i hi).1) (fun i hi => (aw_good i hi).2)
  have e : rowsTo 4 awX 3 = awR := by decide
  rw [e] at h
  exact h
def awS : ByteArray := ⟨#[98, 97, 115, 105, 110, 32, 118, 111, 108, 117, 109, 101, 32, 45, 49, 50]⟩
def awL : ByteArray := ⟨#[98, 97, 115, 105, 110, 32, 118, 111, 108, 117, 109, 101]⟩
theorem aw_read_is : RdIs awS awL (-12) 0 := by
  have hc : Canon (awS.extract (12 + 1) awS.size).data.toList (-12) := by
    refine ⟨?_, by omega, by omega⟩
    rw [itoa_neg' (by omega), show (-12 : Int).natAbs = 12 from rfl, Lib.decDigits_two (by omega) (by omega)]
    decide
  exact ⟨.inr (.inr ⟨by decide, 12, by omega, by decide, by decide, .inl ⟨⟨-12, hc, rfl⟩, by decide, rfl⟩⟩)⟩
end Go.Proofs.YtdgfljkhnifemaaGreatDoor

namespace Go.Proofs.YtdgfljkhnifemaaGreatDoor
open Go.RowKit
set_option linter.unusedVariables false
set_option linter.unusedSimpArgs false

theorem aw5_in (w : World) : StrIn (w.alloc (Obj.cells #[.string ⟨#[97]⟩, .string ⟨#[98, 98]⟩, .string ⟨#[99]⟩] 9)) (some ⟨w.heap.size, 0, none⟩) 3 awX := by
  refine ⟨by omega, .inr ⟨w.heap.size, 0, rfl, by simp, fun k hk => ?_⟩⟩
  have : k = 0 ∨ k = 1 ∨ k = 2 := by omega
  rcases this with rfl | rfl | rfl <;> simp [awX]
theorem aw5_in2 (w : World) : StrIn (w.alloc (Obj.cells #[.string ⟨#[97, 32, 98, 98]⟩, .string ⟨#[99]⟩] 9)) (some ⟨w.heap.size, 0, none⟩) 2 (fun k => awR.getD k ByteArray.empty) := by
  refine ⟨by omega, .inr ⟨w.heap.size, 0, rfl, by simp, fun k hk => ?_⟩⟩
  have : k = 0 ∨ k = 1 := by omega
  rcases this with rfl | rfl <;> simp [awR]
set_option maxRecDepth 100000 in
set_option maxHeartbeats 2000000 in
theorem caw5 (w : World) (hE : Env5 w) : Calls Tryz.prog 5 #[] w fun e w' => e = .returned (.bool true) ∧ Below w.heap.size w w' := by
  have HE := Lib.hid hE
  have ST := Lib.hid fun (A : Option Addr) c w ht => trows A 3 c awX 4 (by omega) (fun i hi => by have := (aw_good i hi).2; omega) w ht
  have SR := Lib.hid fun w hE => tread_at (by decide) aw_read_is w hE
  have SE := Lib.hid fun (A B : Option Addr) (c d : Nat) w hA hB => sequal_same A B 2 c d (fun k => awR.getD k ByteArray.empty) w hA hB
  have b0 : Below w.heap.size w (w.alloc (Obj.cells #[.string ⟨#[97]⟩, .string ⟨#[98, 98]⟩, .string ⟨#[99]⟩] 9)) := by (repeat' (first | assumption | exact Below.refl _ _ | exact Below.size (by assumption) | (refine Below.setCell ?_ ?_ _) | (refine Below.alloc ?_ ?_ _) | (refine Below.drew ?_) | (refine below_drewN ?_ _) | (refine Below.trans ?_ (Below.mono ‹Below _ _ _› ?_)) | omega | (simp; done) | (simp; omega) | (simp at *; omega)))
  have B0 := Lib.hid b0
  clear hE b0
  unfold awS awL at SR
  go_enter Tryz.func5, Tryz.ntmps5
  go_wp2_with (first
    | (go_at_call 19
       with_reducible refine (ST.out _ _ _ (aw5_in w)).mono ?_
       rintro e w1 ⟨R, er, A1, c1, N1, hN, hR, rfl, hS, hb, _⟩
       obtain ⟨rfl, rfl⟩ := hR.uniq aw_rows_is
       obtain rfl : N1 = 2 := hN.trans rfl
       have HW1 := Lib.hid (below_step B0.out hb)
       have HS1 := Lib.hid hS
       clear hN hR hS hb)
    | (go_at_call 16
       with_reducible refine (SR.out _ ?_).mono ?_
       focus (exact HE.out.below HW1.out)
       rintro e w2 ⟨rfl, hb2⟩
       have HW2 := Lib.hid (below_step HW1.out hb2)
       have HS2 := Lib.hid (HS1.out.below (Nat.le_refl _) hb2)
       clear hb2)
    | (go_at_call 13
       with_reducible refine (SE.out _ _ _ _ _ ?_ ?_).mono ?_
       focus (exact HS2.out.below (Nat.le_refl _) (by (repeat' (first | assumption | exact Below.refl _ _ | exact Below.size (by assumption) | (refine Below.setCell ?_ ?_ _) | (refine Below.alloc ?_ ?_ _) | (refine Below.drew ?_) | (refine below_drewN ?_ _) | (refine Below.trans ?_ (Below.mono ‹Below _ _ _› ?_)) | omega | (simp; done) | (simp; omega) | (simp at *; omega)))))
       focus (exact aw5_in2 w2)
       rintro e w3 ⟨rfl, hb3⟩
       have HW3 := Lib.hid (below_step (HW2.out.alloc HW2.out.size (Obj.cells #[.string ⟨#[97, 32, 98, 98]⟩, .string ⟨#[99]⟩] 9)) hb3)
       clear hb3))
  go_ret
  exact ⟨by simp, HW3.out⟩
end Go.Proofs.YtdgfljkhnifemaaGreatDoor

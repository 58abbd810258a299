/- The package's Parse of a table: a range over strings.SplitSeq. -/
import Derived.Test.YthbdeaglncoanaaGreatDoorSeq
import Derived.Test.YthbdeaglncoanaaGreatDoorTxT
import Derived.Test.YthbdeaglncoanaaGreatDoorKt
import Derived.RangeFuncBox
import Derived.Maps.AppendAt
namespace Go.Proofs.YthbdeaglncoanaaGreatDoor
open Go.RowKit Go.Shelf
set_option linter.unusedVariables false
set_option linter.unusedSimpArgs false
attribute [local go_sem] Oper.semAt_some

/-- strings.Cut at a byte: where it stands, or not. -/
theorem cut_split (s : ByteArray) (c : UInt8) : (Lib.indexByte s.data.toList c = -1) ∨ ∃ k : Nat, Lib.indexByte s.data.toList c = (k : Int) ∧ k < s.size := by
  rcases index_split s.data.toList c with ⟨h, e⟩ | ⟨a, b, e1, e2, e3⟩
  · exact .inl e
  · refine .inr ⟨a.length, e3, ?_⟩
    have : s.size = s.data.toList.length := (Array.length_toList (xs := s.data)).symm
    rw [this, e1]; simp
/-- The two parts. -/
def cutA (s : ByteArray) (c : UInt8) : ByteArray := if Lib.indexByte s.data.toList c = -1 then s else s.extract 0 (Lib.indexByte s.data.toList c).toNat
def cutB (s : ByteArray) (c : UInt8) : ByteArray := if Lib.indexByte s.data.toList c = -1 then ⟨#[]⟩ else s.extract ((Lib.indexByte s.data.toList c).toNat + 1) s.size
def cutF (s : ByteArray) (c : UInt8) : Bool := if Lib.indexByte s.data.toList c = -1 then false else true
theorem cut_size (s : ByteArray) (c : UInt8) : (cutA s c).size ≤ s.size ∧ (cutB s c).size ≤ s.size := by
  unfold cutA cutB
  rcases cut_split s c with e | ⟨k, e, hk⟩
  · rw [if_pos e, if_pos e]; exact ⟨Nat.le_refl _, Nat.zero_le _⟩
  · rw [if_neg (by omega), if_neg (by omega), ByteArray.size_extract, ByteArray.size_extract]; omega
theorem cut_at {a b : List UInt8} {c : UInt8} (h : c ∉ a) : cutA ⟨(a ++ c :: b).toArray⟩ c = ⟨a.toArray⟩ ∧ cutB ⟨(a ++ c :: b).toArray⟩ c = ⟨b.toArray⟩ := by
  have e : Lib.indexByte (a ++ c :: b) c = (a.length : Int) := by
    rcases index_split (a ++ c :: b) c with ⟨hn, _⟩ | ⟨a', b', e1, e2, e3⟩
    · exact absurd (by simp) hn
    · rw [e3]
      have : a.length = a'.length := by
        clear e3
        induction a generalizing a' with
        | nil =>
          cases a' with
          | nil => rfl
          | cons x a' => simp at e1; exact absurd (by simp [e1.1]) e2
        | cons y a ih =>
          cases a' with
          | nil => simp at e1; exact absurd (by simp [e1.1]) h
          | cons x a' =>
            simp at e1
            have := ih (fun g => h (by simp [g])) a' e1.2 (fun g => e2 (by simp [g]))
            simp [this]
      omega
  have e' : Lib.indexByte (⟨(a ++ c :: b).toArray⟩ : ByteArray).data.toList c = (a.length : Int) := e
  unfold cutA cutB
  rw [if_neg (by omega), if_neg (by omega), e']
  constructor
  · apply ByteArray.ext
    rw [ByteArray.data_extract]
    apply Array.ext'
    rw [Array.toList_extract]
    simp
  · apply ByteArray.ext
    rw [ByteArray.data_extract]
    apply Array.ext'
    rw [Array.toList_extract]
    have : (⟨(a ++ c :: b).toArray⟩ : ByteArray).size = a.length + 1 + b.length := by show (a ++ c :: b).length = _; simp; omega
    rw [this]
    simp
theorem tcutc0 (s : ByteArray) (hs : s.size ≤ 8388608) (c : UInt8) (w : World) : Calls Tryz.prog 49 #[.string s, .string ⟨#[c]⟩] w fun e w' => e = .returned (.tuple #[.string (cutA s c), .string (cutB s c), .bool (cutF s c)]) ∧ Below w.heap.size w w' := by
  have S := fun w => Tryz.stringslite_Index_one s c w
  rcases cut_split s c with e | ⟨k, e, hk⟩
  · have ea : cutA s c = s := if_pos e
    have eb : cutB s c = ⟨#[]⟩ := if_pos e
    have ef : cutF s c = false := if_pos e
    rw [ea, eb, ef]
    rw [e] at S
    have S := Lib.hid S
    clear e hs ea eb ef
    go_enter Tryz.func49, Tryz.ntmps49
    go_wp2_with (first | (go_at_call 67; (with_reducible refine (S.out _).mono ?_); rintro e w' ⟨rfl, rfl⟩))
    go_ret3
    exact ⟨rfl, by (repeat' (first | assumption | exact Below.refl _ _ | exact Below.size (by assumption) | (refine Below.setCell ?_ ?_ _) | (refine Below.alloc ?_ ?_ _) | (refine Below.drew ?_) | (refine below_drewN ?_ _) | (refine Below.trans ?_ (Below.mono ‹Below _ _ _› ?_)) | omega | (simp; done) | (simp; omega) | (simp at *; omega)))⟩
  · obtain ⟨kk, hkk⟩ : ∃ z, z = k + 1 := ⟨_, rfl⟩
    have ea : cutA s c = s.extract 0 k := by unfold cutA; rw [if_neg (by omega), e]; rfl
    have eb : cutB s c = s.extract kk s.size := by unfold cutB; rw [if_neg (by omega), e, hkk]; rfl
    have ef : cutF s c = true := if_neg (by omega)
    rw [ea, eb, ef]
    rw [e] at S
    have S := Lib.hid S
    have t1 : decide ((0 : Int) ≤ (k : Int)) = true := decide_eq_true (by omega)
    have t2 : IntKind.i64.wrap ((k : Int) + 1) = (kk : Int) := by rw [IntKind.wrap_i64]; omega
    have t3 : kk ≤ s.size := by omega
    have t4 : (kk : Int) ≤ (s.size : Int) := by omega
    have t5 : k ≤ s.size := by omega
    have t6 : (k : Int) ≤ (s.size : Int) := by omega
    clear e hk hkk hs ea eb ef
    go_enter Tryz.func49, Tryz.ntmps49
    go_wp2_with (first | (go_at_call 67; (with_reducible refine (S.out _).mono ?_); rintro e w' ⟨rfl, rfl⟩))
    go_quiet (fail)
    go_wp2_with fail
    go_ret3
    exact ⟨by simp [*], by (repeat' (first | assumption | exact Below.refl _ _ | exact Below.size (by assumption) | (refine Below.setCell ?_ ?_ _) | (refine Below.alloc ?_ ?_ _) | (refine Below.drew ?_) | (refine below_drewN ?_ _) | (refine Below.trans ?_ (Below.mono ‹Below _ _ _› ?_)) | omega | (simp; done) | (simp; omega) | (simp at *; omega)))⟩
theorem tcutc (s : ByteArray) (hs : s.size ≤ 8388608) (c : UInt8) (w : World) : Calls Tryz.prog 28 #[.string s, .string ⟨#[c]⟩] w fun e w' => e = .returned (.tuple #[.string (cutA s c), .string (cutB s c), .bool (cutF s c)]) ∧ Below w.heap.size w w' := by
  have S := Lib.hid fun w => tcutc0 s hs c w
  clear hs
  go_enter Tryz.func28, Tryz.ntmps28
  go_wp2_with (first | (go_at_call 49; (with_reducible refine (S.out _).mono ?_); rintro e w1 ⟨rfl, hb1⟩; obtain ⟨hc1, hf1⟩ := bcell hb1; have hz1 := hb1.size; (try simp at hz1); (try simp only [heap_drew, World.heap_drewN] at hz1); (try simp only [heap_drew, World.heap_drewN] at hc1); (try simp only [heap_drew, World.heap_drewN] at hf1); (try have hs1 := Nat.lt_of_succ_le hz1); (try have hs2 := Nat.lt_of_succ_lt hs1); (try have y0 : w.heap.size < w1.heap.size := by omega); (try have y1 : w.heap.size + 1 < w1.heap.size := by omega); (try have y2 : w.heap.size + 2 < w1.heap.size := by omega)))
  go_ret3
  refine ⟨rfl, ?_⟩
  (repeat' (first | assumption | exact Below.refl _ _ | exact Below.size (by assumption) | (refine Below.setCell ?_ ?_ _) | (refine Below.alloc ?_ ?_ _) | (refine Below.drew ?_) | (refine below_drewN ?_ _) | (refine Below.trans ?_ (Below.mono ‹Below _ _ _› ?_)) | omega | (simp; done) | (simp; omega) | (simp at *; omega)))
theorem words_at {s x : ByteArray} {pre post : List ByteArray} (hx : words s = pre ++ x :: post) {n : Nat} {X Y : Nat → Int} (hok : TabOK n X Y) (ht : s.data.toList = txL X Y n) : pre.length < n ∧ x = ⟨(ktx (X pre.length) (Y pre.length)).toArray⟩ := by
  obtain ⟨m, rfl⟩ : ∃ m, n = m + 1 := ⟨n - 1, by have := hok.1; omega⟩
  unfold words at hx
  rw [ht, wds_tx] at hx
  have hl := congrArg List.length hx
  rw [List.length_map, kws_len, List.length_append, List.length_cons] at hl
  have hlt : pre.length < m + 1 := by omega
  refine ⟨hlt, ?_⟩
  have e := congrArg (fun l => l[pre.length]?) hx
  simp only [List.getElem?_map, kws_get X Y hlt, List.getElem?_append_right (Nat.le_refl _), Nat.sub_self, List.getElem?_cons_zero, Option.map_some, Option.some.injEq] at e
  exact e.symm
theorem words_len {s : ByteArray} {n : Nat} {X Y : Nat → Int} (hok : TabOK n X Y) (ht : s.data.toList = txL X Y n) : (words s).length = n := by
  obtain ⟨m, rfl⟩ : ∃ m, n = m + 1 := ⟨n - 1, by have := hok.1; omega⟩
  unfold words
  rw [List.length_map, ht, wds_tx, kws_len]
theorem words_pos (s : ByteArray) : 1 ≤ (words s).length := by
  unfold words
  rw [List.length_map]
  have := List.length_pos_iff.2 (wds_ne s.data.toList)
  omega
theorem words_size {s x : ByteArray} (h : x ∈ words s) : x.size ≤ s.size := by
  unfold words at h
  obtain ⟨l, hl, rfl⟩ := List.mem_map.1 h
  have := wds_sub _ l hl
  have e : s.size = s.data.toList.length := (Array.length_toList (xs := s.data)).symm
  show l.length ≤ _
  omega
/-- The knots so far are those of whatever table has the text. -/
def Agree (s : ByteArray) (L : List (Int × Int)) : Prop := ∀ n X Y, TabOK n X Y → s.data.toList = txL X Y n → L = tl L.length X Y
theorem agree_nil (s : ByteArray) : Agree s [] := fun _ _ _ _ _ => rfl
theorem agree_step {s x : ByteArray} {pre post : List ByteArray} {L : List (Int × Int)} {v1 v2 : Int} (hx : words s = pre ++ x :: post) (hL : L.length = pre.length) (h : Agree s L) (h1 : Lib.atoiAll (cutA x 58).data.toList = .ok v1) (h2 : Lib.atoiAll (cutB x 58).data.toList = .ok v2) : Agree s (L ++ [(v1, v2)]) := fun n X Y hok ht => by
  obtain ⟨hlt, e⟩ := words_at hx hok ht
  have hn := hok.near pre.length hlt
  rw [e] at h1 h2
  obtain ⟨c1, c2⟩ := cut_at (b := Lib.itoa (Y pre.length)) (itoa_no58 (X pre.length))
  unfold ktx at h1 h2
  rw [c1] at h1
  rw [c2] at h2
  have a1 := Lib.NumEnd.ok.inj (h1.symm.trans (atoi_itoa hn.1.1 hn.1.2))
  have a2 := Lib.NumEnd.ok.inj (h2.symm.trans (atoi_itoa hn.2.1 hn.2.2))
  have e2 := h n X Y hok ht
  rw [List.length_append, List.length_singleton, tl_succ, hL, a1, a2]
  rw [hL] at e2
  rw [← e2]
theorem no_text {s x : ByteArray} {pre post : List ByteArray} (hx : words s = pre ++ x :: post) (hb : (∀ v, Lib.atoiAll (cutA x 58).data.toList ≠ .ok v) ∨ (∀ v, Lib.atoiAll (cutB x 58).data.toList ≠ .ok v) ∨ 100 < pre.length) : ∀ n X Y, TabOK n X Y → s.data.toList ≠ txL X Y n := fun n X Y hok ht => by
  obtain ⟨hlt, e⟩ := words_at hx hok ht
  have hn := hok.near pre.length hlt
  obtain ⟨c1, c2⟩ := cut_at (b := Lib.itoa (Y pre.length)) (itoa_no58 (X pre.length))
  rw [e] at hb
  unfold ktx at hb
  rw [c1, c2] at hb
  rcases hb with h | h | h
  · exact h _ (atoi_itoa hn.1.1 hn.1.2)
  · exact h _ (atoi_itoa hn.2.1 hn.2.2)
  · have := hok.2.1; omega
/-- What Parse answers: the table that has the text, or the error. -/
def ParsePost (w : World) (s : ByteArray) (e : Ending) (w' : World) : Prop :=
  (∃ (n : Nat) (X Y : Nat → Int) (g cap : Nat), TabOK n X Y ∧ s.data.toList = txL X Y n ∧ e = .returned (.tuple #[.slice (some ⟨g, 0, none⟩) n cap, .int .i64 0]) ∧ w.heap.size ≤ g ∧ TabAt w' g 0 n X Y ∧ Below w.heap.size w w') ∨
  ((∀ n X Y, TabOK n X Y → s.data.toList ≠ txL X Y n) ∧ e = .returned (.tuple #[.slice none 0 0, .int .i64 7]) ∧ Below w.heap.size w w')
structure PrI (w : World) (s : ByteArray) (pre : List ByteArray) (W : World) : Prop where
  r0 : Blk W w.heap.size 38 #[.slice none 0 0]
  r1 : Blk W (w.heap.size + 1) 25 #[.int .i64 0]
  tb : ∃ v L, Blk W (w.heap.size + 1 + 1) 38 #[v] ∧ W.ownsRow (w.heap.size + 6) 44 2 v pre.length (kc L) ∧ L.length = pre.length ∧ Agree s L
  le : pre.length ≤ 101
  bl : Below w.heap.size w W
  sz : w.heap.size + 6 ≤ W.heap.size
structure PrX (w : World) (s : ByteArray) (W : World) : Prop where
  r0 : Blk W w.heap.size 38 #[.slice none 0 0]
  r1 : Blk W (w.heap.size + 1) 25 #[.int .i64 7]
  no : ∀ n X Y, TabOK n X Y → s.data.toList ≠ txL X Y n
  bl : Below w.heap.size w W
theorem row_kept {W W' : World} {base size k bs B : Nat} {e : TypeId} {v : Value} {xs : List Value} {row : Option Nat} (h : W.ownsRow base e size v k xs) (hbs : bs < base) (hg : W.grownBy W' row) (hr : ∀ r, row = some r → r = bs ∨ (B ≤ r ∧ ∃ o : Obj, W.heap[r]? = some o ∧ o.isCells = false)) : W'.ownsRow base e size v k xs := by
  refine h.kept hg ?_
  rcases h.2 with ⟨rfl, _⟩ | ⟨g, cap, cur, rfl, hge, hgb, _⟩
  · exact .inl rfl
  · refine .inr fun e' => ?_
    rcases hr g (by simpa [Value.ownBlock] using e'.symm) with h1 | ⟨_, o, ho, hc⟩
    · omega
    · rw [hgb] at ho; cases ho; cases hc
theorem PrI.holds (w : World) (s : ByteArray) (B : Nat) (hB : w.heap.size + 6 ≤ B) : Holds (w.heap.size + 1 + 1 + 1) B (PrI w s) := fun pre W W' row h hg hr => by
  have hne : ∀ k, k < w.heap.size + 1 + 1 + 1 → some k ≠ row := fun k hk e => by rcases hr k e.symm with h1 | ⟨h1, _⟩ <;> omega
  obtain ⟨v, L, hb, ho, hl, ha⟩ := h.tb
  exact ⟨h.r0.grown hg (hne _ (by omega)), h.r1.grown hg (hne _ (by omega)), ⟨v, L, hb.grown hg (hne _ (by omega)), row_kept ho (by omega) hg hr, hl, ha⟩, h.le,
    h.bl.grown hg h.bl.size (fun k e => by rcases hr k e with h1 | ⟨h1, _⟩ <;> omega), Nat.le_trans h.sz hg.size⟩
theorem PrX.holds (w : World) (s : ByteArray) (B : Nat) (hB : w.heap.size + 6 ≤ B) : Holds (w.heap.size + 1 + 1 + 1) B (fun (_ : List ByteArray) W => PrX w s W) := fun pre W W' row h hg hr => by
  have hne : ∀ k, k < w.heap.size + 1 + 1 + 1 → some k ≠ row := fun k hk e => by rcases hr k e.symm with h1 | ⟨h1, _⟩ <;> omega
  exact ⟨h.r0.grown hg (hne _ (by omega)), h.r1.grown hg (hne _ (by omega)), h.no, h.bl.grown hg h.bl.size (fun k e => by rcases hr k e with h1 | ⟨h1, _⟩ <;> omega)⟩
/-- Behind an append to the owned row: all below it, and whatever is no cells, lies as it lay. -/
theorem app_keep {w7 w8 : World} {base k : Nat} {v : Value} {xs : List Value} {tmp : Obj} (ho : w7.ownsRow base 44 2 v k xs) (hg : (w7.alloc tmp).grownBy w8 v.ownBlock) :
    w7.heap.size ≤ w8.heap.size ∧ (∀ j, j < base → j < w7.heap.size → w8.heap[j]? = w7.heap[j]?) ∧ (∀ (j : Nat) (o : Obj), w7.heap[j]? = some o → o.isCells = false → w8.heap[j]? = some o) ∧ (∀ B, B ≤ base → B ≤ w7.heap.size → Below B w7 w8) := by
  have hs : w7.heap.size ≤ w8.heap.size := by have := hg.size; simp at this; omega
  have key : ∀ g, v.ownBlock = some g → base ≤ g ∧ ∃ o : Obj, w7.heap[g]? = some o ∧ o.isCells = true := fun g e => by
    rcases ho.2 with ⟨rfl, _⟩ | ⟨g', cap, cur, rfl, hge, hgb, _⟩
    · simp [Value.ownBlock] at e
    · have : g' = g := by simpa [Value.ownBlock] using e
      subst this
      exact ⟨hge, _, hgb, rfl⟩
  have hold : ∀ j, j < w7.heap.size → (w7.alloc tmp).heap[j]? = w7.heap[j]? := fun j hj => Below.heap_alloc _ _ _ hj
  refine ⟨hs, fun j hj hj2 => ?_, fun j o hj ho' => ?_, fun B hB hB2 => ?_⟩
  · refine (hg.block j (by simp; omega) (fun e => ?_)).trans (hold j hj2)
    have := (key j e.symm).1; omega
  · have hlt := (Array.getElem?_eq_some_iff.1 hj).1
    refine ((hg.block j (by simp; omega) (fun e => ?_)).trans (hold j hlt)).trans hj
    obtain ⟨_, o2, h2, h3⟩ := key j e.symm
    rw [hj] at h2; cases h2; rw [ho'] at h3; cases h3
  · exact ((Below.refl B w7).alloc hB2 tmp).grown hg (by simp; omega) (fun g e => Nat.le_trans hB (key g e).1)
theorem own_blk_far {W : World} {base k g : Nat} {e : TypeId} {size : Nat} {v : Value} {xs : List Value} (h : W.ownsRow base e size v k xs) (hg : g < base) : v = .slice none 0 0 ∨ some g ≠ v.ownBlock := by
  rcases h.2 with ⟨rfl, _⟩ | ⟨g', cap, cur, rfl, hge, _⟩
  · exact .inl rfl
  · refine .inr fun e => ?_
    have : g = g' := by simpa [Value.ownBlock] using e
    omega
theorem heap_set {W : World} {p : Addr} {u : Value} {k : Nat} (h : k ≠ p.block) : (W.setCell p u).heap[k]? = W.heap[k]? := Below.heap_setCell W p u k h
theorem size_set (W : World) (p : Addr) (u : Value) : (W.setCell p u).heap.size = W.heap.size := by simp [World.setCell]
/-- The two results are stored. -/
theorem two_set {W : World} {z : Nat} {T E : TypeId} {x0 x1 : Value} (h0 : Blk W z T #[x0]) (h1 : Blk W (z + 1) E #[x1]) (v0 v1 : Value) :
    Blk ((W.setCell ⟨z, 0, none⟩ v0).setCell ⟨z + 1, 0, none⟩ v1) z T #[v0] ∧ Blk ((W.setCell ⟨z, 0, none⟩ v0).setCell ⟨z + 1, 0, none⟩ v1) (z + 1) E #[v1] := by
  refine ⟨(h0.set_ 0 v0).far (by show z ≠ z + 1; omega) _, (h1.far (by show z + 1 ≠ z; omega) v0).set_ 0 v1⟩
theorem keeps_two {B z : Nat} {W A : World} (v0 v1 : Value) (h : Below W.heap.size W A) (hB : z + 1 < B) : KeepsFrom B W ((A.setCell ⟨z, 0, none⟩ v0).setCell ⟨z + 1, 0, none⟩ v1) := by
  refine ⟨by rw [size_set, size_set]; exact h.size, fun k o hk ho _ => ?_⟩
  rw [heap_set (by show k ≠ z + 1; omega), heap_set (by show k ≠ z; omega)]
  exact (h.block k (Array.getElem?_eq_some_iff.1 ho).1).trans ho
theorem PrI.bad {w W A : World} {s : ByteArray} {pre : List ByteArray} (hi : PrI w s pre W) (h : Below W.heap.size W A) (hno : ∀ n X Y, TabOK n X Y → s.data.toList ≠ txL X Y n) : PrX w s ((A.setCell ⟨w.heap.size, 0, none⟩ (.slice none 0 0)).setCell ⟨w.heap.size + 1, 0, none⟩ (.int .i64 7)) := by
  obtain ⟨a, b⟩ := two_set (hi.r0.call h) (hi.r1.call h) (.slice none 0 0) (.int .i64 7)
  exact ⟨a, b, hno, ((hi.bl.trans (h.mono hi.bl.size)).setCell (p := ⟨w.heap.size, 0, none⟩) (Nat.le_refl _) _).setCell (p := ⟨w.heap.size + 1, 0, none⟩) (by show w.heap.size ≤ w.heap.size + 1; omega) _⟩
theorem PrI.app {w W w7 w8 : World} {s x : ByteArray} {pre post : List ByteArray} {v v' : Value} {L : List (Int × Int)} {v1 v2 : Int} {tmp : Obj} {B : Nat} (hi : PrI w s pre W) (hB : w.heap.size + 6 ≤ B) (h : Below W.heap.size W w7) (hxs : words s = pre ++ x :: post)
    (hL : L.length = pre.length) (ha : Agree s L) (h1 : Lib.atoiAll (cutA x 58).data.toList = .ok v1) (h2 : Lib.atoiAll (cutB x 58).data.toList = .ok v2) (hle : pre.length ≤ 100)
    (hv : Blk w7 (w.heap.size + 1 + 1) 38 #[v]) (ho : w7.ownsRow (w.heap.size + 6) 44 2 v pre.length (kc L)) (hown : w8.ownsRow (w.heap.size + 6) 44 2 v' (pre.length + 1) (kc L ++ [.int .i64 v1, .int .i64 v2])) (hg : (w7.alloc tmp).grownBy w8 v.ownBlock) :
    KeepsFrom B W (w8.setCell ⟨w.heap.size + 1 + 1, 0, none⟩ v') ∧ Kp3 (w.heap.size + 1 + 1 + 1) W (w8.setCell ⟨w.heap.size + 1 + 1, 0, none⟩ v') ∧ PrI w s (pre ++ [x]) (w8.setCell ⟨w.heap.size + 1 + 1, 0, none⟩ v') := by
  obtain ⟨k1, k2, k3, k4⟩ := app_keep ho hg
  have hs7 := h.size
  have hsz := hi.sz
  have b8 : Below w.heap.size w w8 := (hi.bl.trans (h.mono hi.bl.size)).trans (k4 _ (by omega) (by omega))
  have blk : ∀ {j : Nat} {t : TypeId} {cs : Array Value}, j < w.heap.size + 6 → Blk w7 j t cs → Blk w8 j t cs := fun hj hb => (k2 _ hj hb.lt).trans hb
  refine ⟨⟨by rw [size_set]; omega, fun k o hk ho' hc => ?_⟩, ⟨by rw [size_set]; omega, fun k hk1 hk2 => ?_⟩, ?_⟩
  · rw [heap_set (by show k ≠ w.heap.size + 1 + 1; omega)]
    exact k3 k o ((h.block k (Array.getElem?_eq_some_iff.1 ho').1).trans ho') hc
  · rw [heap_set (by show k ≠ w.heap.size + 1 + 1; omega)]
    exact (k2 k (by omega) (by omega)).trans (h.block k (by omega))
  · refine ⟨(blk (by omega) (hi.r0.call h)).far (by show w.heap.size ≠ w.heap.size + 1 + 1; omega) _, (blk (by omega) (hi.r1.call h)).far (by show w.heap.size + 1 ≠ w.heap.size + 1 + 1; omega) _, ⟨v', L ++ [(v1, v2)], (blk (by omega) hv).set_ 0 v', ?_, by simp [hL], agree_step hxs hL ha h1 h2⟩, by simp; omega, b8.setCell (p := ⟨w.heap.size + 1 + 1, 0, none⟩) (by show w.heap.size ≤ w.heap.size + 1 + 1; omega) _, by rw [size_set]; omega⟩
    rw [kc_append, List.length_append]
    refine hown.kept (grownBy_setCell' w8 _ v') ?_
    rcases own_blk_far (g := w.heap.size + 1 + 1) hown (by omega) with h0 | h0
    · exact .inl (by rw [h0]; rfl)
    · exact .inr (Ne.symm h0)
set_option maxRecDepth 100000 in
set_option maxHeartbeats 4000000 in
theorem tparse (s : ByteArray) (hs : s.size ≤ 300000) (w : World) (hE : Env w) : Calls Tryz.prog 53 #[.string s] w (ParsePost w s) := by
  have HE := Lib.hid hE
  have HSZ := Lib.hid hs
  have SP := Lib.hid fun w => tsplit s w
  clear hE
  refine (callsIn_wide (n := 4)).1 ?_
  refine callsIn_of_wp_marks Tryz.func53 rfl trivial ?_ rfl
  simp only [Tryz.ntmps53, List.size_toArray, List.length_cons, List.length_nil, Nat.reduceAdd, Nat.reduceSub, Array.replicate_succ, Array.replicate_zero, List.push_toArray, List.append_toArray, List.nil_append, List.cons_append]
  gi_wp2_with (refine ⟨trivial, ?_⟩; gi_at_call 71; refine (callsIn_wide.2 (SP.out _)).mono ?_; rintro e w4 ⟨rfl, hsp, hb4, hz4⟩)
  simp only [World.size_alloc] at hsp hz4
  have hB3 : Below w.heap.size w (((w.alloc (Obj.cells #[Value.slice none 0 0] 38)).alloc (Obj.cells #[Value.int IntKind.i64 0] 25)).alloc (Obj.cells #[Value.slice none 0 0] 38)) := (((Below.refl _ w).alloc (Nat.le_refl _) _).alloc (by simp) _).alloc (by simp <;> omega) _
  have hB4 : Below w.heap.size w w4 := hB3.trans (hb4.mono hB3.size)
  have g0 := (((Blk.new w 38 #[.slice none 0 0]).alloc (Obj.cells #[Value.int IntKind.i64 0] 25)).alloc (Obj.cells #[Value.slice none 0 0] 38)).call hb4
  have g1 := ((Blk.new (w.alloc (Obj.cells #[Value.slice none 0 0] 38)) 25 #[.int .i64 0]).alloc (Obj.cells #[Value.slice none 0 0] 38)).call hb4
  have g2 := (Blk.new ((w.alloc (Obj.cells #[Value.slice none 0 0] 38)).alloc (Obj.cells #[Value.int IntKind.i64 0] 25)) 38 #[.slice none 0 0]).call hb4
  simp only [World.size_alloc] at g1 g2
  have hz : w.heap.size + 6 ≤ w4.heap.size := by omega
  have PI0 : PrI w s [] w4 := ⟨g0, g1, ⟨_, [], g2, World.ownsRow_nil _ _ _ _, rfl, agree_nil s⟩, Nat.zero_le _, hB4, hz⟩
  obtain ⟨i0, hi0, hz0, hz1, hz2⟩ := info_parts1 info39
  have HI0 := Lib.hid hi0
  have HZ0 := Lib.hid hz0
  have HZ1 := Lib.hid hz1
  have HZ2 := Lib.hid hz2
  have HHS := Lib.hid hz
  have hsp' := hsp
  clear hB3 hb4 g0 g1 g2 hi0 hz0 hz1 hz2 hB4
  refine wpIn_range_own rfl (by omega) (gf := 114) (lb := #[.pointer (some ⟨w.heap.size + 1 + 1 + 1 + 1, 0, none⟩), .pointer (some ⟨w.heap.size + 1 + 1 + 1, 0, none⟩), .pointer (some ⟨w.heap.size + 1 + 1 + 1 + 2, 0, none⟩)]) rfl trivial (enters_of Tryz.func114 (by kernel_rfl) rfl) (encs := fun x : ByteArray => #[.string x]) (bs := w.heap.size + 1 + 1 + 1) (Kp := Kp3 (w.heap.size + 1 + 1 + 1)) (by omega) (split_hands s (by omega) _ w4 hsp') Kp3.t
    (fun W l o' hl => ⟨by simp, fun k h1 h2 => World.putObj_heap_other (by omega)⟩) (fun _ => rfl) (PrI w s) (fun _ W => PrX w s W) (PrI.holds w s _ hz) (PrX.holds w s _ hz) PI0
    (fun x => { tmps := #[.string s, undef, .pointer (some ⟨w.heap.size, 0, none⟩), .pointer (some ⟨w.heap.size + 1, 0, none⟩), .pointer (some ⟨w.heap.size + 1 + 1, 0, none⟩), .string x, undef, undef, undef, undef, undef, undef, undef, undef, undef, .string s, .func (.func 114) #[] #[.pointer (some ⟨w.heap.size + 1 + 1 + 1 + 1, 0, none⟩), .pointer (some ⟨w.heap.size + 1 + 1 + 1, 0, none⟩), .pointer (some ⟨w.heap.size + 1 + 1 + 1 + 2, 0, none⟩)], .string x, undef, undef, undef, undef, undef, undef, undef, undef, undef, undef, undef, undef, undef, undef, undef, undef, undef, undef, undef, undef, undef, undef, undef, undef, undef, undef, undef, undef, undef, undef, undef, undef, undef, undef, undef, undef, undef, undef, undef, undef, undef, undef, undef, undef, undef, undef], defers := [] }) ?assign ?body ?done ?stop
  case assign =>
    intro l x W K hK
    gi_wp2
    exact hK
  case stop =>
    intro D pre W hD hi hK
    have c0 := hi.r0.cell 0
    have c1 := hi.r1.cell 0
    have HX := Lib.hid hi
    have HDD := Lib.hid hD
    clear hi hD
    gi_wp2
    have hlt := (Array.getElem?_eq_some_iff.1 hK).1
    have hDz := HHS.out
    have hDD := HDD.out
    refine ⟨by simp, .inl ⟨_, _, rfl, run_takeDeferred hK, ?_⟩⟩
    have hp : ∀ {j : Nat} {t : TypeId} {cs : Array Value}, j < w.heap.size + 6 → Blk W j t cs → Blk (W.putObj D (.deferred none)) j t cs := fun hj hb => (World.putObj_heap_other (by omega)).trans hb
    have q0 := (hp (by omega) HX.out.r0).cell 0
    have q1 := (hp (by omega) HX.out.r1).cell 0
    simp only [List.getElem?_toArray, List.getElem?_cons_zero] at q0 q1
    refine ⟨.tuple #[.slice none 0 0, .int .i64 7], ?_, .inr ⟨HX.out.no, rfl, HX.out.bl.grown (grownBy_putObj' W D _) HX.out.bl.size (fun k e => by cases e; omega)⟩⟩
    simp [results, Tryz.f53, go_sem, q0, q1]
  case done =>
    intro D W hD hi hK
    obtain ⟨v, L, hv, ho, hL, ha⟩ := hi.tb
    have hp := words_pos s
    have hle := hi.le
    obtain ⟨m, hm⟩ : ∃ m, (words s).length = m + 1 := ⟨(words s).length - 1, by omega⟩
    rw [hm] at ho hL hle
    obtain ⟨g, cap, rfl⟩ := ownsRow_succ ho
    have ht : TabAt W g 0 (m + 1) (kX L) (kY L) := by
      have := tab_of_kc (L := L) (w := W) (base := w.heap.size + 6) (g := g) (cap := cap) (t := 44) (by rw [hL]; exact ho)
      rw [hL] at this
      exact this
    have hg := (ho.lt g rfl).1
    have HG := Lib.hid hg
    have HM := Lib.hid hle
    have HT := Lib.hid ht
    have HA := Lib.hid ha
    -- whatever table has the text is this one
    have HU : Hid (∀ n X Y, TabOK n X Y → s.data.toList = txL X Y n → TabOK (m + 1) (kX L) (kY L) ∧ s.data.toList = txL (kX L) (kY L) (m + 1)) := fun n X Y hok hx => by
      have e := ha n X Y hok hx
      have en := words_len hok hx
      have em : n = m + 1 := by omega
      subst em
      rw [hL] at e
      have hk : ∀ k, k < m + 1 → kX L k = X k ∧ kY L k = Y k := fun k hk => by rw [e]; exact tl_at hk
      refine ⟨⟨hok.1, hok.2.1, fun k hk' => ?_⟩, ?_⟩
      · have := hok.2.2 k hk'
        unfold goodAt at this ⊢
        rw [(hk k hk').1, (hk k hk').2]
        refine ⟨this.1, this.2.1, fun h0 => ?_⟩
        rw [(hk (k - 1) (by omega)).1, (hk (k - 1) (by omega)).2]
        exact this.2.2 h0
      · rw [hx]; exact tx_congr (fun k hk' => ⟨(hk k hk').1.symm, (hk k hk').2.symm⟩)
    have HEW := Lib.hid (HE.out.below hi.bl)
    have yw := hv.cell 0
    simp only [List.getElem?_toArray, List.getElem?_cons_zero] at yw
    clear hg hle ht ha hL hm hp ho
    by_cases hok : TabOK (m + 1) (kX L) (kY L)
    · have ST := Lib.hid (ttext g 0 (m + 1) cap (kX L) (kY L) W hok HT.out HEW.out)
      obtain ⟨q, hq⟩ : ∃ q : ByteArray, q = ⟨(txL (kX L) (kY L) (m + 1)).toArray⟩ := ⟨_, rfl⟩
      rw [← hq] at ST
      by_cases he : q = s
      · subst he
        have HQ := Lib.hid hq
        have HOK := Lib.hid hok
        have HX : Hid (q.data.toList = txL (kX L) (kY L) (m + 1)) := by show _ = _; rw [hq]
        clear hq hok
        gi_wp2_with (refine ⟨trivial, ?_⟩; gi_at_call 23; refine (callsIn_wide.2 ST.out).mono ?_; rintro e w5 ⟨rfl, hb5⟩; have HB5 := Lib.hid hb5; have y0 := (hi.r0.call hb5).cell 0; have y1 := (hi.r1.call hb5).cell 0; have y2 := (hv.call hb5).cell 0; have f0 := (hi.r0.call hb5).frozen 0; have f1 := (hi.r1.call hb5).frozen 0; simp only [List.getElem?_toArray, List.getElem?_cons_zero] at y0 y1 y2; clear hb5)
        have HK5 : w5.heap[D]? = some (.deferred (some [])) := (HB5.out.block D (Array.getElem?_eq_some_iff.1 hK).1).trans hK
        have hDz := HHS.out
        obtain ⟨a0, a1⟩ := two_set (hi.r0.call HB5.out) (hi.r1.call HB5.out) (.slice (some ⟨g, 0, none⟩) (m + 1) cap) (.int .i64 0)
        have hKf : ((w5.setCell ⟨w.heap.size, 0, none⟩ (.slice (some ⟨g, 0, none⟩) (m + 1) cap)).setCell ⟨w.heap.size + 1, 0, none⟩ (.int .i64 0)).heap[D]? = some (.deferred (some [])) := by
          rw [heap_set (by show D ≠ w.heap.size + 1; omega), heap_set (by show D ≠ w.heap.size; omega)]; exact HK5
        have hbf : Below w.heap.size w ((w5.setCell ⟨w.heap.size, 0, none⟩ (.slice (some ⟨g, 0, none⟩) (m + 1) cap)).setCell ⟨w.heap.size + 1, 0, none⟩ (.int .i64 0)) := ((hi.bl.trans (HB5.out.mono hi.bl.size)).setCell (p := ⟨w.heap.size, 0, none⟩) (Nat.le_refl _) _).setCell (p := ⟨w.heap.size + 1, 0, none⟩) (by show w.heap.size ≤ w.heap.size + 1; omega) _
        refine ⟨by simp, .inl ⟨_, _, rfl, run_takeDeferred hKf, ?_⟩⟩
        have q0 := (show Blk (((w5.setCell ⟨w.heap.size, 0, none⟩ (.slice (some ⟨g, 0, none⟩) (m + 1) cap)).setCell ⟨w.heap.size + 1, 0, none⟩ (.int .i64 0)).putObj D (.deferred none)) _ _ _ from (World.putObj_heap_other (by omega)).trans a0).cell 0
        have q1 := (show Blk (((w5.setCell ⟨w.heap.size, 0, none⟩ (.slice (some ⟨g, 0, none⟩) (m + 1) cap)).setCell ⟨w.heap.size + 1, 0, none⟩ (.int .i64 0)).putObj D (.deferred none)) _ _ _ from (World.putObj_heap_other (by omega)).trans a1).cell 0
        simp only [List.getElem?_toArray, List.getElem?_cons_zero] at q0 q1
        have hbp := hbf.grown (grownBy_putObj' _ D (.deferred none)) hbf.size (fun k e => by cases e; omega)
        refine ⟨.tuple #[.slice (some ⟨g, 0, none⟩) (m + 1) cap, .int .i64 0], ?_, .inl ⟨m + 1, kX L, kY L, g, cap, HOK.out, HX.out, rfl, by have := HG.out; omega, ?_, hbp⟩⟩
        · simp [results, Tryz.f53, go_sem, q0, q1]
        · have hg := HG.out
          have h5 := HT.out.below HB5.out HT.out.1
          refine ⟨by simp [World.setCell]; exact h5.1, fun k hk => ?_⟩
          have hne : g ≠ D := fun e => by
            subst e
            have h1 := (h5.2 0 (by omega)).1
            simp only [World.cell?, HK5] at h1
            cases h1
          have hb : ∀ o, (((w5.setCell ⟨w.heap.size, 0, none⟩ (.slice (some ⟨g, 0, none⟩) (m + 1) cap)).setCell ⟨w.heap.size + 1, 0, none⟩ (.int .i64 0)).putObj D (.deferred none)).cell? ⟨g, o, none⟩ = w5.cell? ⟨g, o, none⟩ := fun o => World.cell?_of_block (by
            show (World.putObj _ _ _).heap[g]? = _
            rw [World.putObj_heap_other hne, heap_set (by show g ≠ w.heap.size + 1; omega), heap_set (by show g ≠ w.heap.size; omega)])
          exact ⟨(hb _).trans (h5.2 k hk).1, (hb _).trans (h5.2 k hk).2⟩
      · have HNO : Hid (∀ n X Y, TabOK n X Y → s.data.toList ≠ txL X Y n) := fun n X Y h1 h2 => he (by
          rw [hq, ← (HU.out n X Y h1 h2).2])
        have u1 : ¬ q.toList = s.toList := fun h => he (bytes_ext h)
        have u2 : decide (q.toList = s.toList) = false := decide_eq_false u1
        have u3 : (q.toList == s.toList) = false := by simp [u1]
        clear hq hok he
        gi_wp2_with (refine ⟨trivial, ?_⟩; gi_at_call 23; refine (callsIn_wide.2 ST.out).mono ?_; rintro e w5 ⟨rfl, hb5⟩; have HB5 := Lib.hid hb5; have y0 := (hi.r0.call hb5).cell 0; have y1 := (hi.r1.call hb5).cell 0; have y2 := (hv.call hb5).cell 0; have f0 := (hi.r0.call hb5).frozen 0; have f1 := (hi.r1.call hb5).frozen 0; simp only [List.getElem?_toArray, List.getElem?_cons_zero] at y0 y1 y2; clear hb5)
        have HK5 : w5.heap[D]? = some (.deferred (some [])) := (HB5.out.block D (Array.getElem?_eq_some_iff.1 hK).1).trans hK
        have hDz := HHS.out
        obtain ⟨a0, a1⟩ := two_set (hi.r0.call HB5.out) (hi.r1.call HB5.out) (.slice none 0 0) (.int .i64 7)
        have hKf : ((w5.setCell ⟨w.heap.size, 0, none⟩ (.slice none 0 0)).setCell ⟨w.heap.size + 1, 0, none⟩ (.int .i64 7)).heap[D]? = some (.deferred (some [])) := by
          rw [heap_set (by show D ≠ w.heap.size + 1; omega), heap_set (by show D ≠ w.heap.size; omega)]; exact HK5
        have hbf : Below w.heap.size w ((w5.setCell ⟨w.heap.size, 0, none⟩ (.slice none 0 0)).setCell ⟨w.heap.size + 1, 0, none⟩ (.int .i64 7)) := ((hi.bl.trans (HB5.out.mono hi.bl.size)).setCell (p := ⟨w.heap.size, 0, none⟩) (Nat.le_refl _) _).setCell (p := ⟨w.heap.size + 1, 0, none⟩) (by show w.heap.size ≤ w.heap.size + 1; omega) _
        refine ⟨by simp, .inl ⟨_, _, rfl, run_takeDeferred hKf, ?_⟩⟩
        have q0 := (show Blk (((w5.setCell ⟨w.heap.size, 0, none⟩ (.slice none 0 0)).setCell ⟨w.heap.size + 1, 0, none⟩ (.int .i64 7)).putObj D (.deferred none)) _ _ _ from (World.putObj_heap_other (by omega)).trans a0).cell 0
        have q1 := (show Blk (((w5.setCell ⟨w.heap.size, 0, none⟩ (.slice none 0 0)).setCell ⟨w.heap.size + 1, 0, none⟩ (.int .i64 7)).putObj D (.deferred none)) _ _ _ from (World.putObj_heap_other (by omega)).trans a1).cell 0
        simp only [List.getElem?_toArray, List.getElem?_cons_zero] at q0 q1
        have hbp := hbf.grown (grownBy_putObj' _ D (.deferred none)) hbf.size (fun k e => by cases e; omega)
        refine ⟨.tuple #[.slice none 0 0, .int .i64 7], ?_, .inr ⟨HNO.out, rfl, hbp⟩⟩
        simp [results, Tryz.f53, go_sem, q0, q1]
    · have HNO : Hid (∀ n X Y, TabOK n X Y → s.data.toList ≠ txL X Y n) := fun n X Y h1 h2 => hok (HU.out n X Y h1 h2).1
      have ST := Lib.hid (ttext_bad (some ⟨g, 0, none⟩) (m + 1) cap (kX L) (kY L) W ⟨by have := HM.out; omega, .inr ⟨g, 0, rfl, HT.out⟩⟩ hok)
      clear hok
      gi_wp2_with (refine ⟨trivial, ?_⟩; gi_at_call 23; refine (callsIn_wide.2 ST.out).mono ?_; rintro e w5 ⟨rfl, hb5⟩; have HB5 := Lib.hid hb5; have y0 := (hi.r0.call hb5).cell 0; have y1 := (hi.r1.call hb5).cell 0; have y2 := (hv.call hb5).cell 0; have f0 := (hi.r0.call hb5).frozen 0; have f1 := (hi.r1.call hb5).frozen 0; simp only [List.getElem?_toArray, List.getElem?_cons_zero] at y0 y1 y2; clear hb5)
      have HK5 : w5.heap[D]? = some (.deferred (some [])) := (HB5.out.block D (Array.getElem?_eq_some_iff.1 hK).1).trans hK
      have hDz := HHS.out
      obtain ⟨a0, a1⟩ := two_set (hi.r0.call HB5.out) (hi.r1.call HB5.out) (.slice none 0 0) (.int .i64 7)
      have hKf : ((w5.setCell ⟨w.heap.size, 0, none⟩ (.slice none 0 0)).setCell ⟨w.heap.size + 1, 0, none⟩ (.int .i64 7)).heap[D]? = some (.deferred (some [])) := by
        rw [heap_set (by show D ≠ w.heap.size + 1; omega), heap_set (by show D ≠ w.heap.size; omega)]; exact HK5
      have hbf : Below w.heap.size w ((w5.setCell ⟨w.heap.size, 0, none⟩ (.slice none 0 0)).setCell ⟨w.heap.size + 1, 0, none⟩ (.int .i64 7)) := ((hi.bl.trans (HB5.out.mono hi.bl.size)).setCell (p := ⟨w.heap.size, 0, none⟩) (Nat.le_refl _) _).setCell (p := ⟨w.heap.size + 1, 0, none⟩) (by show w.heap.size ≤ w.heap.size + 1; omega) _
      refine ⟨by simp, .inl ⟨_, _, rfl, run_takeDeferred hKf, ?_⟩⟩
      have q0 := (show Blk (((w5.setCell ⟨w.heap.size, 0, none⟩ (.slice none 0 0)).setCell ⟨w.heap.size + 1, 0, none⟩ (.int .i64 7)).putObj D (.deferred none)) _ _ _ from (World.putObj_heap_other (by omega)).trans a0).cell 0
      have q1 := (show Blk (((w5.setCell ⟨w.heap.size, 0, none⟩ (.slice none 0 0)).setCell ⟨w.heap.size + 1, 0, none⟩ (.int .i64 7)).putObj D (.deferred none)) _ _ _ from (World.putObj_heap_other (by omega)).trans a1).cell 0
      simp only [List.getElem?_toArray, List.getElem?_cons_zero] at q0 q1
      have hbp := hbf.grown (grownBy_putObj' _ D (.deferred none)) hbf.size (fun k e => by cases e; omega)
      refine ⟨.tuple #[.slice none 0 0, .int .i64 7], ?_, .inr ⟨HNO.out, rfl, hbp⟩⟩
      simp [results, Tryz.f53, go_sem, q0, q1]
  case body =>
    rintro l pre x post W hxs hi
    have HXS := Lib.hid hxs
    have hn1 : 1 ≤ 4 - 1 - 1 := by omega
    have hxm : x.size ≤ 300000 := by have := words_size (s := s) (x := x) (by rw [hxs]; simp); have := HSZ.out; omega
    obtain ⟨z1, z2⟩ := cut_size x 58
    have SC := Lib.hid fun w => tcutc x (by omega) 58 w
    have HEW := Lib.hid (HE.out.below hi.bl)
    obtain ⟨v, L, hv, ho, hL, ha⟩ := hi.tb
    have HI := Lib.hid hi
    have hle := hi.le
    generalize ha1 : cutA x 58 = ca at SC
    generalize ha2 : cutB x 58 = cb at SC
    generalize cutF x 58 = cf at SC
    have NT := Lib.hid fun h => no_text (s := s) hxs h
    rw [ha1, ha2] at NT
    by_cases k1 : ∃ v1, Lib.atoiAll ca.data.toList = .ok v1
    · obtain ⟨v1, k1⟩ := k1
      have S1 := Lib.hid fun w => tatoi_ok ca (by rw [← ha1]; omega) v1 k1 w
      by_cases k2 : ∃ v2, Lib.atoiAll cb.data.toList = .ok v2
      · obtain ⟨v2, k2⟩ := k2
        have S2 := Lib.hid fun w => tatoi_ok cb (by rw [← ha2]; omega) v2 k2 w
        by_cases k3 : pre.length ≤ 100
        · have T1 : decide ((100 : Int) < (pre.length : Int)) = false := decide_eq_false (by omega)
          have T2 : decide (100 < pre.length) = false := decide_eq_false (by omega)
          obtain ⟨cap0, A0, hf⟩ : ∃ cap0 A0, v = .slice A0 pre.length cap0 := by
            rcases ho.2 with ⟨hv', h0⟩ | ⟨g, cap, cur, hv', _⟩
            · exact ⟨0, none, by rw [hv', h0]⟩
            · exact ⟨cap, _, hv'⟩
          subst hf
          gi_wp2_with (first
           | (refine ⟨trivial, ?_⟩; gi_at_call 28; refine (CallsIn.inRound l (callsIn_wide.2 (SC.out _))).mono ?_; rintro e w5 ⟨rfl, hb5⟩; have HB5 := Lib.hid hb5; clear hb5) | (refine ⟨trivial, ?_⟩; gi_at_call 72; with_reducible refine (CallsIn.inRound l (callsIn_wide.2 (S1.out _))).mono ?_; rintro e w6 ⟨rfl, hb⟩; have HB6 := Lib.hid (below_step HB5.out hb); clear hb) | (refine ⟨trivial, ?_⟩; gi_at_call 72; with_reducible refine (CallsIn.inRound l (callsIn_wide.2 (S2.out _))).mono ?_; rintro e w7 ⟨rfl, hb⟩; have HB7 := Lib.hid (below_step HB6.out hb); clear hb; have y0 := (hi.r0.call HB7.out).cell 0; have y1 := (hi.r1.call HB7.out).cell 0; have y2 := (hv.call HB7.out).cell 0; have f0 := (hi.r0.call HB7.out).frozen 0; have f1 := (hi.r1.call HB7.out).frozen 0; have f2 := (hv.call HB7.out).frozen 0; simp only [List.getElem?_toArray, List.getElem?_cons_zero] at y0 y1 y2; have HO7 := Lib.hid (own_below ho HB7.out))
           | (gi_at_builtin; refine wpListIn_append_own _ rfl _ _ 38 rfl (w.heap.size + 6) 44 i0 (.agg #[.int .i64 0, .int .i64 0]) 2 16 Tryz.underlying38 HI0.out HZ0.out HZ1.out HZ2.out rfl (by decide) (.slice A0 pre.length cap0) pre.length (kc L) rfl ?c1 ⟨w7.heap.size, 0, none⟩ 1 1 [.int .i64 v1, .int .i64 v2] ?c2 ?c3 ?c4 ?c5 ?c6 ?c7 ?c8 ?c9
              case c1 => exact HO7.out.alloc _
              case c2 => exact rfl
              case c3 => exact rfl
              case c4 => exact World.news_of_block (cs := #[.int .i64 v1, .int .i64 v2]) (t := 44) (fr := (0, 0)) (heap_alloc_new _ _)
              case c5 => simp [Value.oneCell']
              case c6 => exact h63_le (by omega)
              case c7 => exact hby_le (by omega)
              case c8 => have h1 := HB7.out.size; have h2 := HI.out.sz; rw [World.size_alloc]; omega
              intro v' w8 hown' hgrow hnil
              obtain ⟨g', cap', rfl⟩ := ownsRow_succ hown'
              have HOWN := Lib.hid hown'
              have HG := Lib.hid hgrow
              have HK8 := (app_keep HO7.out hgrow).2.1
              have hv8 : Blk w8 (w.heap.size + 1 + 1) 38 #[.slice A0 pre.length cap0] := (HK8 (w.heap.size + 1 + 1) (by omega) (hv.call HB7.out).lt).trans (hv.call HB7.out)
              have y8 := hv8.cell 0
              have f8 := hv8.frozen 0
              simp only [List.getElem?_toArray, List.getElem?_cons_zero] at y8
              clear HK8 hown' hgrow hnil))
          exact HI.out.app HHS.out HB7.out HXS.out hL ha (by rw [ha1]; exact k1) (by rw [ha2]; exact k2) k3 (hv.call HB7.out) HO7.out HOWN.out HG.out
        · have HNO := Lib.hid (NT.out (.inr (.inr (by omega))))
          have T1 : decide ((100 : Int) < (pre.length : Int)) = true := decide_eq_true (by omega)
          have T2 : decide (100 < pre.length) = true := decide_eq_true (by omega)
          obtain ⟨cap0, A0, hf⟩ : ∃ cap0 A0, v = .slice A0 pre.length cap0 := by
            rcases ho.2 with ⟨hv', h0⟩ | ⟨g, cap, cur, hv', _⟩
            · exact ⟨0, none, by rw [hv', h0]⟩
            · exact ⟨cap, _, hv'⟩
          subst hf
          gi_wp2_with (first
            | (refine ⟨trivial, ?_⟩; gi_at_call 28; refine (CallsIn.inRound l (callsIn_wide.2 (SC.out _))).mono ?_; rintro e w5 ⟨rfl, hb5⟩; have HB5 := Lib.hid hb5; clear hb5)
            | (refine ⟨trivial, ?_⟩; gi_at_call 72; with_reducible refine (CallsIn.inRound l (callsIn_wide.2 (S1.out _))).mono ?_; rintro e w6 ⟨rfl, hb⟩; have HB6 := Lib.hid (below_step HB5.out hb); clear hb)
            | (refine ⟨trivial, ?_⟩; gi_at_call 72; with_reducible refine (CallsIn.inRound l (callsIn_wide.2 (S2.out _))).mono ?_; rintro e w7 ⟨rfl, hb⟩; have HB7 := Lib.hid (below_step HB6.out hb); clear hb; have y0 := (hi.r0.call HB7.out).cell 0; have y1 := (hi.r1.call HB7.out).cell 0; have y2 := (hv.call HB7.out).cell 0; have f0 := (hi.r0.call HB7.out).frozen 0; have f1 := (hi.r1.call HB7.out).frozen 0; simp only [List.getElem?_toArray, List.getElem?_cons_zero] at y0 y1 y2))
          exact ⟨keeps_two _ _ HB7.out (by omega), HI.out.bad HB7.out HNO.out⟩
      · have k2' : ∀ v, Lib.atoiAll cb.data.toList ≠ .ok v := fun v h => k2 ⟨v, h⟩
        have HNO := Lib.hid (NT.out (.inr (.inl k2')))
        obtain ⟨n2, s2⟩ := tatoi_err cb (by rw [← ha2]; omega) k2'
        have S2 := Lib.hid s2
        clear s2
        obtain ⟨cap0, A0, hf⟩ : ∃ cap0 A0, v = .slice A0 pre.length cap0 := by
          rcases ho.2 with ⟨hv', h0⟩ | ⟨g, cap, cur, hv', _⟩
          · exact ⟨0, none, by rw [hv', h0]⟩
          · exact ⟨cap, _, hv'⟩
        subst hf
        gi_wp2_with (first
          | (refine ⟨trivial, ?_⟩; gi_at_call 28; refine (CallsIn.inRound l (callsIn_wide.2 (SC.out _))).mono ?_; rintro e w5 ⟨rfl, hb5⟩; have HB5 := Lib.hid hb5; clear hb5)
          | (refine ⟨trivial, ?_⟩; gi_at_call 72; with_reducible refine (CallsIn.inRound l (callsIn_wide.2 (S1.out _))).mono ?_; rintro e w6 ⟨rfl, hb⟩; have HB6 := Lib.hid (below_step HB5.out hb); clear hb)
          | (refine ⟨trivial, ?_⟩; gi_at_call 72; with_reducible refine (CallsIn.inRound l (callsIn_wide.2 (S2.out _ (HEW.out.below HB6.out)))).mono ?_; rintro e w7 ⟨N7, rfl, hb⟩; have HB7 := Lib.hid (below_step HB6.out hb); clear hb; have y0 := (hi.r0.call HB7.out).cell 0; have y1 := (hi.r1.call HB7.out).cell 0; have y2 := (hv.call HB7.out).cell 0; have f0 := (hi.r0.call HB7.out).frozen 0; have f1 := (hi.r1.call HB7.out).frozen 0; simp only [List.getElem?_toArray, List.getElem?_cons_zero] at y0 y1 y2))
        exact ⟨keeps_two _ _ HB7.out (by omega), HI.out.bad HB7.out HNO.out⟩
    · have k1' : ∀ v, Lib.atoiAll ca.data.toList ≠ .ok v := fun v h => k1 ⟨v, h⟩
      have HNO := Lib.hid (NT.out (.inl k1'))
      obtain ⟨n1, s1⟩ := tatoi_err ca (by rw [← ha1]; omega) k1'
      have S1 := Lib.hid s1
      clear s1
      obtain ⟨cap0, A0, hf⟩ : ∃ cap0 A0, v = .slice A0 pre.length cap0 := by
        rcases ho.2 with ⟨hv', h0⟩ | ⟨g, cap, cur, hv', _⟩
        · exact ⟨0, none, by rw [hv', h0]⟩
        · exact ⟨cap, _, hv'⟩
      subst hf
      by_cases k2 : ∃ v2, Lib.atoiAll cb.data.toList = .ok v2
      · obtain ⟨v2, k2⟩ := k2
        have S2 := Lib.hid fun w => tatoi_ok cb (by rw [← ha2]; omega) v2 k2 w
        gi_wp2_with (first
          | (refine ⟨trivial, ?_⟩; gi_at_call 28; refine (CallsIn.inRound l (callsIn_wide.2 (SC.out _))).mono ?_; rintro e w5 ⟨rfl, hb5⟩; have HB5 := Lib.hid hb5; clear hb5)
          | (refine ⟨trivial, ?_⟩; gi_at_call 72; with_reducible refine (CallsIn.inRound l (callsIn_wide.2 (S1.out _ (HEW.out.below HB5.out)))).mono ?_; rintro e w6 ⟨N6, rfl, hb⟩; have HB6 := Lib.hid (below_step HB5.out hb); clear hb)
          | (refine ⟨trivial, ?_⟩; gi_at_call 72; with_reducible refine (CallsIn.inRound l (callsIn_wide.2 (S2.out _))).mono ?_; rintro e w7 ⟨rfl, hb⟩; have HB7 := Lib.hid (below_step HB6.out hb); clear hb; have y0 := (hi.r0.call HB7.out).cell 0; have y1 := (hi.r1.call HB7.out).cell 0; have y2 := (hv.call HB7.out).cell 0; have f0 := (hi.r0.call HB7.out).frozen 0; have f1 := (hi.r1.call HB7.out).frozen 0; simp only [List.getElem?_toArray, List.getElem?_cons_zero] at y0 y1 y2))
        exact ⟨keeps_two _ _ HB7.out (by omega), HI.out.bad HB7.out HNO.out⟩
      · have k2' : ∀ v, Lib.atoiAll cb.data.toList ≠ .ok v := fun v h => k2 ⟨v, h⟩
        obtain ⟨n2, s2⟩ := tatoi_err cb (by rw [← ha2]; omega) k2'
        have S2 := Lib.hid s2
        clear s2
        gi_wp2_with (first
          | (refine ⟨trivial, ?_⟩; gi_at_call 28; refine (CallsIn.inRound l (callsIn_wide.2 (SC.out _))).mono ?_; rintro e w5 ⟨rfl, hb5⟩; have HB5 := Lib.hid hb5; clear hb5)
          | (refine ⟨trivial, ?_⟩; gi_at_call 72; with_reducible refine (CallsIn.inRound l (callsIn_wide.2 (S1.out _ (HEW.out.below HB5.out)))).mono ?_; rintro e w6 ⟨N6, rfl, hb⟩; have HB6 := Lib.hid (below_step HB5.out hb); clear hb)
          | (refine ⟨trivial, ?_⟩; gi_at_call 72; with_reducible refine (CallsIn.inRound l (callsIn_wide.2 (S2.out _ (HEW.out.below HB6.out)))).mono ?_; rintro e w7 ⟨N7, rfl, hb⟩; have HB7 := Lib.hid (below_step HB6.out hb); clear hb; have y0 := (hi.r0.call HB7.out).cell 0; have y1 := (hi.r1.call HB7.out).cell 0; have y2 := (hv.call HB7.out).cell 0; have f0 := (hi.r0.call HB7.out).frozen 0; have f1 := (hi.r1.call HB7.out).frozen 0; simp only [List.getElem?_toArray, List.getElem?_cons_zero] at y0 y1 y2))
        exact ⟨keeps_two _ _ HB7.out (by omega), HI.out.bad HB7.out HNO.out⟩
end Go.Proofs.YthbdeaglncoanaaGreatDoor

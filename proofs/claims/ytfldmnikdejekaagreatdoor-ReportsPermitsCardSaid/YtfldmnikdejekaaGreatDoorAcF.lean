/- Merged: Acm, Lft, Fst, Key. -/
import Derived.Test.YtfldmnikdejekaaGreatDoorYrs
import Derived.Maps.Own
import Derived.Maps.OwnOps
import Derived.Maps.OwnSet
import Derived.Lib.SlKeysI
import Derived.Test.YtfldmnikdejekaaGreatDoorPrmQ
import Derived.Deep.RegionLaw
import Derived.Test.YtfldmnikdejekaaGreatDoorShelfK
import Derived.Shelf.SlIterI.Nil
import Derived.Shelf.SortM.Plain
import Derived.Shelf.SortM.SortNone
namespace Go.Proofs.YtfldmnikdejekaaGreatDoor
open Go.RowKit Go.Maps
set_option linter.unusedVariables false
set_option linter.unusedSimpArgs false

/-- How an account reads. -/
def accE (v : Value) : Option (DataW Unit × List MemPlace) := match v with
  | .agg ⟨[.int .i64 a, .int .i64 b]⟩ => some (.agg [.lit (.int .i64 a), .lit (.int .i64 b)], [])
  | _ => none
def accD (a b : Int) : DataW Unit := .agg [.lit (.int .i64 a), .lit (.int .i64 b)]
theorem accE_inv {v : Value} {a b : Int} {ps : List MemPlace} (h : accE v = some (accD a b, ps)) : v = .agg #[.int .i64 a, .int .i64 b] := by
  unfold accE accD at h
  split at h
  · simp only [Option.some.injEq, Prod.mk.injEq, DataW.agg.injEq, List.cons.injEq, DataW.lit.injEq, Lit.int.injEq, true_and, and_true] at h
    obtain ⟨⟨rfl, rfl⟩, _⟩ := h
    rfl
  · cases h
theorem kint : Keyed Tryz.prog 3 := int_keyed Tryz.underlying3
theorem zacc (w : World) : (zeroValue 169).run Tryz.prog w = .ok (.agg #[.int .i64 0, .int .i64 0]) w := by kernel_rfl
theorem kwf {y : Int} (h : 0 ≤ y ∧ y ≤ 9999) : (Lit.int .i64 y).wf = true := by
  simp [Lit.wf, IntKind.min, IntKind.max, IntKind.signed, IntKind.bits]; omega
/-- The accounts of the first i events, in block b. -/
def AMem (wr : World) (b : Nat) (Y T : Nat → Int) (i : Nat) : Prop := ∃ D : DataW Unit, wr.ownsMap Tryz.prog 3 accE b i D ∧
  (∀ y, D.atKey (.int .i64 y) (accD 0 0) = accD (cnt Y y i : Int) (cutS (sm Y T y i))) ∧ (∀ y, has D (.int .i64 y) = true ↔ y ∈ keysTo Y i)
theorem AMem.made (w : World) (Y T : Nat → Int) : AMem (w.alloc (.map #[] 0)) w.heap.size Y T 0 :=
  ⟨.map [], World.ownsMap_made _ _ _ _, fun y => rfl, fun y => by simp [keysTo, has]⟩
theorem AMem.kept {w w' : World} {b : Nat} {Y T : Nat → Int} {i : Nat} {row : Option Nat} (h : AMem w b Y T i) (hg : w.grownBy w' row) (hne : some b ≠ row) : AMem w' b Y T i := by
  obtain ⟨D, h1, h2, h3⟩ := h
  exact ⟨D, h1.kept hg hne, h2, h3⟩
theorem AMem.call {w w' : World} {b : Nat} {Y T : Nat → Int} {i : Nat} (h : AMem w b Y T i) (hb : Below w.heap.size w w') : AMem w' b Y T i := h.kept (only_of_below hb none) (by simp)
theorem AMem.lt {w : World} {b : Nat} {Y T : Nat → Int} {i : Nat} (h : AMem w b Y T i) : b < w.heap.size := by
  obtain ⟨D, h1, _⟩ := h
  exact h1.lt
/-- A year's account. -/
theorem AMem.look {w : World} {b : Nat} {Y T : Nat → Int} {i : Nat} (h : AMem w b Y T i) {y : Int} (hy : 0 ≤ y ∧ y ≤ 9999) :
    (Instr.lookup 167 (.map (some b)) (.int .i64 y) false).run Tryz.prog w = .ok (.agg #[.int .i64 (cnt Y y i : Int), .int .i64 (cutS (sm Y T y i))]) w := by
  obtain ⟨D, h1, h2, _⟩ := h
  obtain ⟨v, ps, hrun, hv⟩ := h1.lookup kint Tryz.underlying167 (zacc w) (zd := accD 0 0) (zp := []) rfl (keyOf_int_mk Tryz.underlying3 (kwf hy))
  rw [h2] at hv
  rw [hrun, accE_inv hv]
theorem int_isKey (y : Int) : WideAt.IsKeyLit (.int .i64 y) := by trivial
/-- A year's account is put. -/
theorem AMem.put {w : World} {b : Nat} {Y T : Nat → Int} {i : Nat} (h : AMem w b Y T i) (hi : i ≤ 40) (hy : 0 ≤ Y i ∧ Y i ≤ 9999) (hT : ∀ j, j ≤ i → 0 ≤ T j) :
    ∃ w', (Instr.mapUpdate 167 (.map (some b)) (.int .i64 (Y i)) (.agg #[.int .i64 ((cnt Y (Y i) i : Int) + 1), .int .i64 (cutS (cutS (sm Y T (Y i) i) + cutS (T i)))])).run Tryz.prog w = .ok () w' ∧ AMem w' b Y T (i + 1) ∧ w.grownBy w' (some b) := by
  obtain ⟨D, h1, h2, h3⟩ := h
  obtain ⟨w', hr, hown, hg⟩ := h1.update kint Tryz.underlying167 (by simp only [maxLen]; omega) (keyOf_int_mk Tryz.underlying3 (kwf hy)) (val := .agg #[.int .i64 ((cnt Y (Y i) i : Int) + 1), .int .i64 (cutS (cutS (sm Y T (Y i) i) + cutS (T i)))]) (d := accD ((cnt Y (Y i) i : Int) + 1) (cutS (cutS (sm Y T (Y i) i) + cutS (T i)))) (ps := []) rfl
  refine ⟨w', hr, ⟨_, hown, fun y => ?_, fun y => ?_⟩, hg⟩
  · by_cases hyy : y = Y i
    · subst hyy
      rw [atKey_put_same h1.isMap (int_isKey _)]
      have e1 : cnt Y (Y i) (i + 1) = cnt Y (Y i) i + 1 := by show _ + _ = _; rw [if_pos rfl]
      have e2 : sm Y T (Y i) (i + 1) = sm Y T (Y i) i + T i := by show _ + _ = _; rw [if_pos rfl]
      rw [e1, e2, cut_add (sm_nn i fun j hj => hT j (by omega)) (hT i (Nat.le_refl _))]
      simp
    · rw [atKey_put_other (by simpa using hyy), h2 y]
      have e1 : cnt Y y (i + 1) = cnt Y y i := by show _ + _ = _; rw [if_neg (Ne.symm hyy)]; rfl
      have e2 : sm Y T y (i + 1) = sm Y T y i := by show _ + _ = _; rw [if_neg (Ne.symm hyy), Int.add_zero]
      rw [e1, e2]
  · have hm : y ∈ keysTo Y (i + 1) ↔ y ∈ keysTo Y i ∨ y = Y i := by
      rw [mem_keys, mem_keys]
      constructor
      · rintro ⟨j, hj, e⟩
        rcases Nat.lt_or_ge j i with g | g
        · exact .inl ⟨j, g, e⟩
        · obtain rfl : j = i := by omega
          exact .inr e.symm
      · rintro (⟨j, hj, e⟩ | e)
        · exact ⟨j, by omega, e⟩
        · exact ⟨i, by omega, e.symm⟩
    rw [hm]
    by_cases hyy : y = Y i
    · subst hyy
      simp [has_put_same h1.isMap (int_isKey _)]
    · rw [has_put_other (by simpa using hyy), h3 y]
      simp [hyy]
theorem AMem.keys {w : World} {b : Nat} {Y T : Nat → Int} {i : Nat} (h : AMem w b Y T i) (ha : Asc Y i) : ∃ D : DataW Unit, w.ownsMap Tryz.prog 3 accE b i D ∧ (keysTo Y i).Perm (intKeys D) := by
  obtain ⟨D, h1, h2, h3⟩ := h
  refine ⟨D, h1, ?_⟩
  exact CollectedI.perm (left := fun _ => false) (ss := keysTo Y i) ⟨((keys_lt ha).imp fun {a b} hab => by omega), fun x => by rw [h3 x]; simp⟩ h1 kint Tryz.underlying3 (fun _ => rfl)
end Go.Proofs.YtfldmnikdejekaaGreatDoor

namespace Go.Proofs.YtfldmnikdejekaaGreatDoor
open Go.RowKit
set_option linter.unusedVariables false
set_option linter.unusedSimpArgs false

/-- What Left answers. -/
noncomputable def leftRes (ok : Prop) (E : Evs) (n : Nat) (from_ sec t ev tot : Int) : Value :=
  if leftE ok E n from_ sec t = 0 then .tuple #[.int .i64 (leftN E n from_ sec t ev), .int .i64 (leftV E n from_ sec t tot), .int .i64 0] else .tuple #[.int .i64 0, .int .i64 0, .int .i64 (leftE ok E n from_ sec t)]
theorem left_bad {ok : Prop} {E : Evs} {n : Nat} {from_ sec t ev tot er : Int} (h : leftE ok E n from_ sec t = er) (h0 : er ≠ 0) : leftRes ok E n from_ sec t ev tot = .tuple #[.int .i64 0, .int .i64 0, .int .i64 er] := by
  unfold leftRes; rw [h, if_neg h0]
theorem acc_cells {w : World} {g : Nat} {t : TypeId} {a b : Value} (h : Blk w g t #[a, b]) : w.cell? ⟨g, 0, none⟩ = some a ∧ w.cell? ⟨g, 1, none⟩ = some b := ⟨h.cell 0, h.cell 1⟩
theorem ev_cells {w : World} {g : Nat} {t : TypeId} {a b c d : Value} (h : Blk w g t #[a, b, c, d]) : w.cell? ⟨g, 0, none⟩ = some a ∧ w.cell? ⟨g, 1, none⟩ = some b ∧ w.cell? ⟨g, 2, none⟩ = some c ∧ w.cell? ⟨g, 3, none⟩ = some d := ⟨h.cell 0, h.cell 1, h.cell 2, h.cell 3⟩
def LMem (w wr : World) (g : Nat) (a b : Int) : Prop := Blk wr g 169 #[.int .i64 a, .int .i64 b] ∧ w.heap.size ≤ g ∧ Below w.heap.size w wr
theorem LMem.call {w wr w' : World} {g : Nat} {a b : Int} (h : LMem w wr g a b) (hb : Below wr.heap.size wr w') : LMem w w' g a b := ⟨h.1.call hb, h.2.1, below_step h.2.2 hb⟩
theorem LMem.set {w wr : World} {g : Nat} {a b c d : Int} (h : LMem w wr g a b) : LMem w ((wr.setCell ⟨g, 0, none⟩ (.int .i64 c)).setCell ⟨g, 1, none⟩ (.int .i64 d)) g c d :=
  ⟨(h.1.set_ 0 _).set_ 1 _, h.2.1, (h.2.2.setCell (p := ⟨g, 0, none⟩) h.2.1 _).setCell (p := ⟨g, 1, none⟩) h.2.1 _⟩
theorem blk5_set {w : World} {g : Nat} {t : TypeId} {cs : Array Value} {a b c d e : Value} (h : Blk w g t cs) (hc : cs.size = 5) : Blk (((((w.setCell ⟨g, 0, none⟩ a).setCell ⟨g, 1, none⟩ b).setCell ⟨g, 2, none⟩ c).setCell ⟨g, 3, none⟩ d).setCell ⟨g, 4, none⟩ e) g t #[a, b, c, d, e] := by
  obtain ⟨l⟩ := cs
  match l, hc with
  | [x0, x1, x2, x3, x4], _ => exact ((((h.set_ 0 _).set_ 1 _).set_ 2 _).set_ 3 _).set_ 4 _
theorem bytes_ext39 {a b : ByteArray} (h : a.toList = b.toList) : a = b := by
  rw [ByteArray.toList_eq, ByteArray.toList_eq] at h
  obtain ⟨⟨l⟩⟩ := a
  obtain ⟨⟨m⟩⟩ := b
  have : l = m := h
  rw [this]
def zeroPm : Value := .agg #[.string ⟨#[]⟩, .string ⟨#[]⟩, .int .i64 0, .int .i64 0, .int .i64 0]
/-- What Merge answers. -/
def mergeRes (nm nd : ByteArray) (ev vol tot : Int) (qm qd : ByteArray) (ev' vol' tot' : Int) : Value :=
  if validB nm nd ev vol tot = true ∧ validB qm qd ev' vol' tot' = true then (if nd = qd then .tuple #[.agg #[.string nm, .string nd, .int .i64 (min ev ev'), .int .i64 (min vol vol'), .int .i64 (min tot tot')], .int .i64 0] else .tuple #[zeroPm, .int .i64 25]) else .tuple #[zeroPm, .int .i64 1]
theorem merge_end {w wx : World} {cs : Array Value} {a b c d e : Value} (h : Blk wx (w.heap.size + 1 + 1) 87 cs) (hc : cs.size = 5) (hb : Below w.heap.size w wx) :
    Blk (((((wx.setCell ⟨w.heap.size + 1 + 1, 0, none⟩ a).setCell ⟨w.heap.size + 1 + 1, 1, none⟩ b).setCell ⟨w.heap.size + 1 + 1, 2, none⟩ c).setCell ⟨w.heap.size + 1 + 1, 3, none⟩ d).setCell ⟨w.heap.size + 1 + 1, 4, none⟩ e) (w.heap.size + 1 + 1) 87 #[a, b, c, d, e] ∧
    Below w.heap.size w (((((wx.setCell ⟨w.heap.size + 1 + 1, 0, none⟩ a).setCell ⟨w.heap.size + 1 + 1, 1, none⟩ b).setCell ⟨w.heap.size + 1 + 1, 2, none⟩ c).setCell ⟨w.heap.size + 1 + 1, 3, none⟩ d).setCell ⟨w.heap.size + 1 + 1, 4, none⟩ e) :=
  ⟨blk5_set h hc, ((((hb.setCell (p := ⟨w.heap.size + 1 + 1, 0, none⟩) (by show w.heap.size ≤ w.heap.size + 1 + 1; omega) _).setCell (p := ⟨w.heap.size + 1 + 1, 1, none⟩) (by show w.heap.size ≤ w.heap.size + 1 + 1; omega) _).setCell (p := ⟨w.heap.size + 1 + 1, 2, none⟩) (by show w.heap.size ≤ w.heap.size + 1 + 1; omega) _).setCell (p := ⟨w.heap.size + 1 + 1, 3, none⟩) (by show w.heap.size ≤ w.heap.size + 1 + 1; omega) _).setCell (p := ⟨w.heap.size + 1 + 1, 4, none⟩) (by show w.heap.size ≤ w.heap.size + 1 + 1; omega) _⟩
theorem frozen5 {w : World} {g : Nat} {t : TypeId} {cs : Array Value} (h : Blk w g t cs) : w.frozen? ⟨g, 0, none⟩ = false ∧ w.frozen? ⟨g, 1, none⟩ = false ∧ w.frozen? ⟨g, 2, none⟩ = false ∧ w.frozen? ⟨g, 3, none⟩ = false ∧ w.frozen? ⟨g, 4, none⟩ = false := ⟨h.frozen 0, h.frozen 1, h.frozen 2, h.frozen 3, h.frozen 4⟩
end Go.Proofs.YtfldmnikdejekaaGreatDoor

namespace Go.Proofs.YtfldmnikdejekaaGreatDoor
open Go.RowKit Go.Maps
set_option linter.unusedVariables false
set_option linter.unusedSimpArgs false

/-- What the loops over events keep: the accounts, and the frame. -/
def FMem (w wr : World) (b : Nat) (Y T : Nat → Int) (i : Nat) : Prop := AMem wr b Y T i ∧ w.heap.size ≤ b ∧ Below w.heap.size w wr
theorem FMem.call {w wr w' : World} {b : Nat} {Y T : Nat → Int} {i : Nat} (h : FMem w wr b Y T i) (hb : Below wr.heap.size wr w') : FMem w w' b Y T i := ⟨h.1.call hb, h.2.1, below_step h.2.2 hb⟩
theorem FMem.drew {w wr : World} {b : Nat} {Y T : Nat → Int} {i : Nat} (h : FMem w wr b Y T i) : FMem w wr.drew b Y T i := h.call (by (repeat' (first | assumption | exact Below.refl _ _ | exact Below.size (by assumption) | (refine Below.setCell ?_ ?_ _) | (refine Below.alloc ?_ ?_ _) | (refine Below.drew ?_) | (refine below_drewN ?_ _) | (refine Below.trans ?_ (Below.mono ‹Below _ _ _› ?_)) | omega | (simp; done) | (simp; omega) | (simp at *; omega))))
/-- One more event. -/
theorem FMem.put {w wr : World} {b : Nat} {Y T : Nat → Int} {i : Nat} (h : FMem w wr b Y T i) (hi : i ≤ 40) (hy : 0 ≤ Y i ∧ Y i ≤ 9999) (hT : ∀ j, j ≤ i → 0 ≤ T j) :
    ∃ w', (Instr.mapUpdate 167 (.map (some b)) (.int .i64 (Y i)) (.agg #[.int .i64 ((cnt Y (Y i) i : Int) + 1), .int .i64 (cutS (cutS (sm Y T (Y i) i) + cutS (T i)))])).run Tryz.prog wr = .ok () w' ∧ FMem w w' b Y T (i + 1) ∧ ∀ (g : Nat) (t : TypeId) (cs : Array Value), g ≠ b → Blk wr g t cs → Blk w' g t cs := by
  obtain ⟨w', hr, hA, hg⟩ := h.1.put hi hy hT
  refine ⟨w', hr, ⟨hA, h.2.1, ?_⟩, fun g t cs hne hb => hb.grown hg (by simpa using hne)⟩
  exact h.2.2.grown hg (by have := h.2.2.size; omega) (fun k hk => by injection hk with hk; have := h.2.1; omega)
/-- A permit is broken behind an event. -/
noncomputable def brk (Y T : Nat → Int) (ev vol tot : Int) (i : Nat) : Bool := decide (ev < (cnt Y (Y i) (i + 1) : Int)) || (decide (tot < cutS (sm Y T (Y i) (i + 1))) || decide (vol < T i))
theorem first_ex39 (p : Nat → Bool) : ∀ n, (∃ K, K < n ∧ p K = true ∧ ∀ j, j < K → p j = false) ∨ (∀ j, j < n → p j = false) := by
  intro n
  induction n with
  | zero => exact .inr fun j hj => absurd hj (by omega)
  | succ n ih =>
    rcases ih with ⟨K, h1, h2, h3⟩ | h
    · exact .inl ⟨K, by omega, h2, h3⟩
    · cases hp : p n with
      | true => exact .inl ⟨n, by omega, hp, h⟩
      | false =>
        refine .inr fun j hj => ?_
        rcases Nat.lt_or_ge j n with g | g
        · exact h j g
        · obtain rfl : j = n := by omega
          exact hp
/-- What First answers. -/
structure FirstIs (ok : Prop) (E : Evs) (n : Nat) (from_ sec ev vol tot k er : Int) : Prop where
  out : (yErr ok E n from_ sec = er ∧ er ≠ 0 ∧ k = 0) ∨ (yErr ok E n from_ sec = 0 ∧ ((∃ K : Nat, K < n ∧ brk (yrs E from_ sec) E.Tot ev vol tot K = true ∧ (∀ j, j < K → brk (yrs E from_ sec) E.Tot ev vol tot j = false) ∧ k = K ∧ er = 0) ∨ ((∀ j, j < n → brk (yrs E from_ sec) E.Tot ev vol tot j = false) ∧ k = 0 ∧ er = 12)))
theorem FirstIs.ex (ok : Prop) (E : Evs) (n : Nat) (from_ sec ev vol tot : Int) : ∃ k er, FirstIs ok E n from_ sec ev vol tot k er := by
  by_cases h : yErr ok E n from_ sec = 0
  · rcases first_ex39 (brk (yrs E from_ sec) E.Tot ev vol tot) n with ⟨K, h1, h2, h3⟩ | h1
    · exact ⟨K, 0, ⟨.inr ⟨h, .inl ⟨K, h1, h2, h3, rfl, rfl⟩⟩⟩⟩
    · exact ⟨0, 12, ⟨.inr ⟨h, .inr ⟨h1, rfl, rfl⟩⟩⟩⟩
  · exact ⟨0, _, ⟨.inl ⟨rfl, h, rfl⟩⟩⟩
end Go.Proofs.YtfldmnikdejekaaGreatDoor

namespace Go.Proofs.YtfldmnikdejekaaGreatDoor
open Go.RowKit Go.Maps Go.Sort Go.Shelf
set_option linter.unusedVariables false
set_option linter.unusedSimpArgs false

theorem sortsA (m : Nat) : AnyZI.SortsIn Tryz.prog Tryz.sortedA_ren Fence.wide m :=
  ⟨fun blk off cap ss W hH hblk hsz => callsIn_wide.2 (AnyM.slices_Sort_int Tryz.sortA blk off cap ss W hH hblk hsz),
   fun p cap W => callsIn_wide.2 (AnyM.slices_Sort_int_none Tryz.sortA p cap W)⟩
theorem tkeys (mb : Option Nat) (W : World) : Calls Tryz.prog 111 #[.map mb] W fun e w' => e = .returned (.func (.func 178) #[] #[.pointer (some ⟨W.heap.size, 0, none⟩)]) ∧ w' = W.alloc (.cells #[.map mb] 167) :=
  (callsIn_wide (n := 5)).1 (AnyZI.keys_in Tryz.keysA Fence.wide 5 trivial rfl mb W)
theorem tsorted (b nn : Nat) (D0 : DataW Unit) (w : World) (hown : w.ownsMap Tryz.prog 3 accE b nn D0) (hmax : Maps.size D0 ≤ maxLen) (hbytes : Maps.size D0 * 8 ≤ 140737488355328) :
    Calls Tryz.prog 110 #[.func (.func 178) #[] #[.pointer (some ⟨w.heap.size, 0, none⟩)]] (w.alloc (.cells #[.map (some b)] 167)) fun e w' => ∃ (v : Value) (ss : List Int), e = .returned v ∧ ss.Perm (intKeys D0) ∧
      w'.ownsRow (w.alloc (.cells #[.map (some b)] 167)).heap.size 3 1 v ss.length ((ss.mergeSort (fun x y => decide (x ≤ y))).map encZ) ∧ (v = .slice none 0 0 ↔ ss = []) ∧ Below (w.alloc (.cells #[.map (some b)] 167)).heap.size (w.alloc (.cells #[.map (some b)] 167)) w' := by
  have hbl := hown.lt
  have hseq : SeqGives Fence.wide 2 Tryz.prog 178 #[.pointer (some ⟨w.heap.size, 0, none⟩)] encZ (fun ss => ss.Perm (intKeys D0)) (Maps.size D0) (w.alloc (.cells #[.map (some b)] 167)) :=
    AnyZI.keys_gives (ρ := Tryz.keysA_ren) { Tryz.keysA with } Fence.wide _ trivial rfl (by omega) w.heap.size b nn D0 _ (by simp) (by simp) (by
      obtain ⟨es, clock, hb, Ft, hs, hD⟩ := hown
      exact ⟨es, clock, (Below.heap_alloc _ _ b hbl).trans hb, Ft, hs, hD⟩)
  exact (callsIn_wide (n := 5)).1 (AnyZI.sorted_in Tryz.sortedA Fence.wide 5 trivial trivial trivial trivial rfl (by omega) (sortsA _) (enters_of Tryz.func177 (by kernel_rfl) rfl) 178 #[.pointer (some ⟨w.heap.size, 0, none⟩)] trivial (enters_of Tryz.func178 (by kernel_rfl) rfl) _ _ hmax hbytes _ hseq)
def kX39 (K : List Int) (k : Nat) : Int := K.getD k 0
/-- The accounts' years, sorted. -/
theorem tsortedK {w : World} {b n : Nat} {Y T : Nat → Int} (h : AMem w b Y T n) (ha : Asc Y n) (hn : n ≤ 40) :
    Calls Tryz.prog 110 #[.func (.func 178) #[] #[.pointer (some ⟨w.heap.size, 0, none⟩)]] (w.alloc (.cells #[.map (some b)] 167)) fun e w' => ∃ (A : Option Addr) (N cap : Nat), e = .returned (.slice A N cap) ∧ N = (keysTo Y n).length ∧ N ≤ 40 ∧ IntIn w' A N (kX39 (keysTo Y n)) ∧ Below w.heap.size w w' := by
  obtain ⟨D, hD, hp⟩ := h.keys ha
  have hs := hD.size_le
  refine (tsorted b n D w hD (by simp only [maxLen]; omega) (by omega)).mono ?_
  rintro e w' ⟨v, ss, rfl, hss, hown, _, hb⟩
  have hk := sorted_is (keys_lt ha) (hss.trans hp.symm)
  have hl : ss.length = (keysTo Y n).length := (hss.trans hp.symm).length_eq
  have hl40 : (keysTo Y n).length ≤ n := by
    rw [hp.length_eq]
    refine Nat.le_trans ?_ hs
    obtain ⟨es, rfl⟩ := hD.isMap
    show (es.map _).length ≤ es.length
    simp
  rw [hk, hl] at hown
  have hB : Below w.heap.size w w' := ((Below.refl _ w).alloc (Nat.le_refl _) _).trans (hb.mono (by simp))
  rcases hown.2 with ⟨hv, h0⟩ | ⟨g, cap, cur, hv, _, _, hnc, _⟩
  · exact ⟨none, 0, 0, by rw [hv], h0.symm, by omega, ⟨by omega, .inl rfl⟩, hB⟩
  · refine ⟨some ⟨g, 0, none⟩, _, cap, by rw [hv], rfl, by omega, ⟨by omega, .inr ⟨g, 0, rfl, ?_⟩⟩, hB⟩
    rw [hv] at hown
    refine ⟨(hown.lt g rfl).2, fun k hk => ?_⟩
    rw [Nat.zero_add, hown.cellAt k (by omega)]
    simp [kX39, List.getD, hk]
end Go.Proofs.YtfldmnikdejekaaGreatDoor

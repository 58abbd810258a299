/- Merged texts of these proofs: FmV, FmF, FmG, FmH, FmJ, FmI, FmL. -/
import Derived.Test.YthbdeaglncoanaaGreatDoorMgFa
import Derived.Maps.Own
import Derived.Maps.OwnOps
import Derived.Maps.Views
import Derived.Test.YthbdeaglncoanaaGreatDoorSameT
import Derived.Test.YthbdeaglncoanaaGreatDoorRdc
namespace Go.Proofs.YthbdeaglncoanaaGreatDoor
open Go.RowKit Go.Maps
set_option linter.unusedVariables false
set_option linter.unusedSimpArgs false

theorem kstr : Keyed Tryz.prog 9 := string_keyed Tryz.underlying9
theorem zbool (w : World) : (zeroValue 4).run Tryz.prog w = .ok (.bool false) w := by kernel_rfl
/-- The names of the first sections, as a map. -/
def nmD (C : Scs) : Nat → DataW Unit
  | 0 => .map []
  | i + 1 => (nmD C i).put (.string (C.Nm i).data.toList) (.lit (.bool true))
theorem nmD_map (C : Scs) : ∀ i, IsMap (nmD C i)
  | 0 => ⟨_, rfl⟩
  | i + 1 => by
    obtain ⟨es, he⟩ := nmD_map C i
    show IsMap ((nmD C i).put _ _)
    rw [he]
    exact ⟨_, rfl⟩
theorem str_key {a b : ByteArray} (h : (Lit.string a.data.toList) = Lit.string b.data.toList) : a = b := by
  injection h with h
  cases a with | mk x => cases b with | mk y => rw [show x = y from Array.toList_inj.1 h]
theorem nmD_at (C : Scs) (s : ByteArray) : ∀ i, (nmD C i).atKey (.string s.data.toList) (.lit (.bool false)) = .lit (.bool (boolOf (∃ j, j < i ∧ C.Nm j = s)))
  | 0 => by
    rw [boolOf_false (show ¬ ∃ j, j < 0 ∧ C.Nm j = s from fun ⟨j, hj, _⟩ => absurd hj (Nat.not_lt_zero _))]
    rfl
  | i + 1 => by
    show ((nmD C i).put _ _).atKey _ _ = _
    by_cases h : C.Nm i = s
    · rw [boolOf_true (show ∃ j, j < i + 1 ∧ C.Nm j = s from ⟨i, by omega, h⟩), h]
      exact atKey_put_same (nmD_map C i) (by simp [WideAt.IsKeyLit]) _ _
    · rw [atKey_put_other (fun e => h (str_key e).symm), nmD_at C s i]
      have : (∃ j, j < i + 1 ∧ C.Nm j = s) ↔ ∃ j, j < i ∧ C.Nm j = s := by
        constructor
        · rintro ⟨j, hj, e⟩
          rcases Nat.lt_or_ge j i with g | g
          · exact ⟨j, g, e⟩
          · have : j = i := by omega
            rw [this] at e; exact absurd e h
        · rintro ⟨j, hj, e⟩
          exact ⟨j, by omega, e⟩
      rw [propext this]
theorem look_nm {w : World} {b n i : Nat} {C : Scs} (h : w.ownsMap (H := Unit) Tryz.prog 9 (plainElem Tryz.prog 4) b n (nmD C i)) {nm : ByteArray} (hn : nm.size ≤ maxLen) :
    (Instr.lookup 63 (.map (some b)) (.string nm) false).run Tryz.prog w = .ok (.bool (boolOf (∃ j, j < i ∧ C.Nm j = nm))) w := by
  obtain ⟨v, ps, hrun, hv⟩ := h.lookup kstr Tryz.underlying63 (zbool w) (plainElem_bool Tryz.underlying4 false) (WideMaps.keyOf_string_mk Tryz.underlying9 hn)
  rw [nmD_at] at hv
  have hv2 : v = .bool (boolOf (∃ j, j < i ∧ C.Nm j = nm)) := by
    unfold plainElem at hv
    split at hv
    · simp at hv; simp [hv]
    · split at hv <;> simp at hv
    · split at hv <;> simp at hv
    · cases hv
  rw [hrun, hv2]
theorem put_nm {w : World} {b n i : Nat} {C : Scs} (h : w.ownsMap (H := Unit) Tryz.prog 9 (plainElem Tryz.prog 4) b n (nmD C i)) (hn0 : n ≤ 2000) (hn : (C.Nm i).size ≤ maxLen) :
    ∃ w', (Instr.mapUpdate 63 (.map (some b)) (.string (C.Nm i)) (.bool true)).run Tryz.prog w = .ok () w' ∧ w'.ownsMap (H := Unit) Tryz.prog 9 (plainElem Tryz.prog 4) b (n + 1) (nmD C (i + 1)) ∧ w.grownBy w' (some b) := by
  obtain ⟨w', hr, hm, hg⟩ := h.update kstr Tryz.underlying63 (by unfold maxLen; omega) (WideMaps.keyOf_string_mk Tryz.underlying9 hn) (plainElem_bool Tryz.underlying4 true)
  exact ⟨w', hr, hm, hg⟩
set_option maxRecDepth 100000 in
set_option maxHeartbeats 8000000 in
theorem tcat (A : Option Addr) (c cc : Nat) (C : Scs) (h2 : c ≤ 2000) (hn : ∀ k, k < c → (C.Nm k).size ≤ maxLen) (w : World) (hC : ScIn w A c C) :
    Calls Tryz.prog 9 #[.slice A c cc] w fun e w' => e = .returned (.bool (boolOf (catP C c))) ∧ Below w.heap.size w w' := by
  have HC := Lib.hid hC
  have HNM := Lib.hid hn
  have H2 := Lib.hid h2
  have hmm := @run_makeMap Tryz.prog
  obtain ⟨V, hV⟩ : ∃ V, V = boolOf (catP C c) := ⟨_, rfl⟩
  rw [← hV]
  have HV := Lib.hid hV
  by_cases h1 : c ≤ 40
  case neg =>
    have t1 : decide ((40 : Int) < (c : Int)) = true := decide_eq_true (by omega)
    have t1' : decide (40 < c) = true := decide_eq_true (by omega)
    obtain rfl : V = false := by rw [hV]; exact boolOf_false fun h => h1 h.1
    clear hV HV hC hn h2 h1 hmm
    go_enter Tryz.func9, Tryz.ntmps9
    go_wp2_with fail
    go_ret
    exact ⟨rfl, by (repeat' (first | assumption | exact Below.refl _ _ | exact Below.size (by assumption) | (refine Below.setCell ?_ ?_ _) | (refine Below.alloc ?_ ?_ _) | (refine Below.drew ?_) | (refine below_drewN ?_ _) | (refine Below.trans ?_ (Below.mono ‹Below _ _ _› ?_)) | omega | (simp; done) | (simp; omega) | (simp at *; omega)))⟩
  have t1 : decide ((40 : Int) < (c : Int)) = false := decide_eq_false (by omega)
  have t1' : decide (40 < c) = false := decide_eq_false (by omega)
  have H1 := Lib.hid h1
  clear hV hC hn h2 h1
  go_enter Tryz.func9, Tryz.ntmps9
  go_wp2_with fail
  have HM0 : Hid ((w.alloc (.map #[] 0)).ownsMap (H := Unit) Tryz.prog 9 (plainElem Tryz.prog 4) w.heap.size 0 (.map []) ∧ Below w.heap.size w (w.alloc (.map #[] 0))) := ⟨World.ownsMap_made _ _ _ _, by (repeat' (first | assumption | exact Below.refl _ _ | exact Below.size (by assumption) | (refine Below.setCell ?_ ?_ _) | (refine Below.alloc ?_ ?_ _) | (refine Below.drew ?_) | (refine below_drewN ?_ _) | (refine Below.trans ?_ (Below.mono ‹Below _ _ _› ?_)) | omega | (simp; done) | (simp; omega) | (simp at *; omega)))⟩
  go_loopw [12] (fun u wr => ∃ i : Nat, Hid (i ≤ c) ∧ u = .int .i64 i ∧ Hid (∀ j, j < i → scnP C j) ∧ Hid (wr.ownsMap (H := Unit) Tryz.prog 9 (plainElem Tryz.prog 4) w.heap.size i (nmD C i)) ∧ Hid (Below w.heap.size w wr)) (fun u _ => c - (RowKit.intOf u).toNat)
  case atStart => exact ⟨0, Nat.zero_le _, rfl, fun j hj => absurd hj (Nat.not_lt_zero _), HM0.out.1, HM0.out.2⟩
  case round =>
    obtain ⟨i, Hi, rfl, HG, HM, HW⟩ := hrel
    by_cases hlt : i < c
    · have T0 : decide ((i : Int) < (c : Int)) = true := by simp <;> omega
      have T0' : decide (i < c) = true := decide_eq_true hlt
      obtain ⟨i', hi'⟩ : ∃ z, z = i + 1 := ⟨_, rfl⟩
      have x0 : IntKind.i64.wrap ((i : Int) + 1) = (i' : Int) := by have := H2.out; rw [IntKind.wrap_i64]; omega
      have HI' : Hid (i' ≤ c) := by show i' ≤ c; omega
      have HMS : Hid (c - (RowKit.intOf (Value.int .i64 (i' : Int))).toNat < c - (RowKit.intOf (Value.int .i64 (i : Int))).toNat) := by show _ < _; simp [RowKit.intOf]; omega
      have k0 : (0 : Int) ≤ (i : Int) := by omega
      have k1 : (i : Int) < (c : Int) := by omega
      obtain ⟨b, off, rfl, hb, hCc, hta, htb⟩ := (HC.out.below (Nat.le_refl _) HW.out).at hlt
      have c0 := hCc 0 _ rfl
      have c1 := hCc 1 _ rfl
      have c2 := hCc 2 _ rfl
      have c3 := hCc 3 _ rfl
      have c4 := hCc 4 _ rfl
      simp only [Nat.add_zero] at c0
      have HTA := Lib.hid hta
      have HTB := Lib.hid htb
      have hnl := HNM.out i hlt
      have HNL := Lib.hid hnl
      have sv := fun w hA hB => cvalid (C.Nm i) (C.Ht i) (C.Pr i) (C.AA i) (C.BA i) (C.AN i) (C.AC i) (C.BN i) (C.BC i) (C.AX i) (C.AY i) (C.BX i) (C.BY i) w hnl hA hB
      have HVF : Hid (¬ scnP C i → V = false) := fun h => by rw [HV.out]; exact boolOf_false fun g => h (g.2 i hlt)
      have HST : Hid (scnP C i → ∀ j, j < i' → scnP C j) := fun h j hj => by
        rcases Nat.lt_or_ge j i with g | g
        · exact HG.out j g
        · have : j = i := by omega
          rw [this]; exact h
      have hnp : boolOf (SecOK (C.Nm i).data.toList (C.Ht i) (C.Pr i) (C.AN i) (C.AX i) (C.AY i) (C.BN i) (C.BX i) (C.BY i)) = boolOf (secP C i) := rfl
      rw [hnp] at sv
      have hbl := HM.out.lt
      have HII : Hid (i + 1 = i') := hi'.symm
      have H40 : Hid (i ≤ 2000) := by show i ≤ 2000; have := H1.out; omega
      clear hi' hlt hCc hta htb hnp hnl
      by_cases g1 : secP C i
      case neg =>
        obtain rfl : V = false := HVF.out fun h => g1 h.1
        rw [boolOf_false g1] at sv
        have SV := Lib.hid sv
        clear sv g1
        go_wp2_with (first
          | (go_at_call 27
             with_reducible refine (SV.out _ ?_ ?_).mono ?_
             focus (exact HTA.out.below (Nat.le_refl _) (by (repeat' (first | assumption | exact Below.refl _ _ | exact Below.size (by assumption) | (refine Below.setCell ?_ ?_ _) | (refine Below.alloc ?_ ?_ _) | (refine Below.drew ?_) | (refine below_drewN ?_ _) | (refine Below.trans ?_ (Below.mono ‹Below _ _ _› ?_)) | omega | (simp; done) | (simp; omega) | (simp at *; omega)))))
             focus (exact HTB.out.below (Nat.le_refl _) (by (repeat' (first | assumption | exact Below.refl _ _ | exact Below.size (by assumption) | (refine Below.setCell ?_ ?_ _) | (refine Below.alloc ?_ ?_ _) | (refine Below.drew ?_) | (refine below_drewN ?_ _) | (refine Below.trans ?_ (Below.mono ‹Below _ _ _› ?_)) | omega | (simp; done) | (simp; omega) | (simp at *; omega)))))
             rintro e w1 ⟨rfl, hb1⟩
             have HB1 := Lib.hid hb1))
        go_ret
        exact ⟨rfl, by have := HW.out; (repeat' (first | assumption | exact Below.refl _ _ | exact Below.size (by assumption) | (refine Below.setCell ?_ ?_ _) | (refine Below.alloc ?_ ?_ _) | (refine Below.drew ?_) | (refine below_drewN ?_ _) | (refine Below.trans ?_ (Below.mono ‹Below _ _ _› ?_)) | omega | (simp; done) | (simp; omega) | (simp at *; omega)))⟩
      rw [boolOf_true g1] at sv
      have SV := Lib.hid sv
      have HE : Hid (∀ w1 : World, Below (wr.alloc (.cells #[.string (C.Nm i), .int .i64 (C.Ht i), .int .i64 (C.Pr i), .slice (C.AA i) (C.AN i) (C.AC i), .slice (C.BA i) (C.BN i) (C.BC i)] 40)).heap.size (wr.alloc (.cells #[.string (C.Nm i), .int .i64 (C.Ht i), .int .i64 (C.Pr i), .slice (C.AA i) (C.AN i) (C.AC i), .slice (C.BA i) (C.BN i) (C.BC i)] 40)) w1 → (Instr.lookup 63 (.map (some w.heap.size)) (.string (C.Nm i)) false).run Tryz.prog w1 = .ok (.bool (boolOf (∃ j, j < i ∧ C.Nm j = C.Nm i))) w1 ∧
          ∃ w2, (Instr.mapUpdate 63 (.map (some w.heap.size)) (.string (C.Nm i)) (.bool true)).run Tryz.prog w1 = .ok () w2 ∧ w2.ownsMap (H := Unit) Tryz.prog 9 (plainElem Tryz.prog 4) w.heap.size i' (nmD C i') ∧ Below w.heap.size w w2) := fun w1 hb => by
        have hk := (HM.out.alloc (.cells #[.string (C.Nm i), .int .i64 (C.Ht i), .int .i64 (C.Pr i), .slice (C.AA i) (C.AN i) (C.AC i), .slice (C.BA i) (C.BN i) (C.BC i)] 40)).kept (w' := w1) (row := none) (only_of_below hb none) (by simp)
        obtain ⟨w2, hr, hm, hg⟩ := put_nm hk H40.out HNL.out
        refine ⟨look_nm hk HNL.out, w2, hr, by rw [← HII.out]; exact hm, ?_⟩
        have hw1 : Below w.heap.size w w1 := (HW.out.alloc (by omega) _).trans (hb.mono (by simp; omega))
        exact hw1.grown hg (by have := hw1.size; omega) (fun k hk => by injection hk with hk; omega)
      by_cases g2 : ∃ j, j < i ∧ C.Nm j = C.Nm i
      case pos =>
        obtain rfl : V = false := HVF.out fun h => by obtain ⟨j, hj, e⟩ := g2; exact h.2 j hj e
        rw [boolOf_true g2] at HE
        clear sv g1 g2
        go_wp2_with (first
          | (go_at_call 27
             with_reducible refine (SV.out _ ?_ ?_).mono ?_
             focus (exact HTA.out.below (Nat.le_refl _) (by (repeat' (first | assumption | exact Below.refl _ _ | exact Below.size (by assumption) | (refine Below.setCell ?_ ?_ _) | (refine Below.alloc ?_ ?_ _) | (refine Below.drew ?_) | (refine below_drewN ?_ _) | (refine Below.trans ?_ (Below.mono ‹Below _ _ _› ?_)) | omega | (simp; done) | (simp; omega) | (simp at *; omega)))))
             focus (exact HTB.out.below (Nat.le_refl _) (by (repeat' (first | assumption | exact Below.refl _ _ | exact Below.size (by assumption) | (refine Below.setCell ?_ ?_ _) | (refine Below.alloc ?_ ?_ _) | (refine Below.drew ?_) | (refine below_drewN ?_ _) | (refine Below.trans ?_ (Below.mono ‹Below _ _ _› ?_)) | omega | (simp; done) | (simp; omega) | (simp at *; omega)))))
             rintro e w1 ⟨rfl, hb1⟩
             have q0 : w1.cell? ⟨wr.heap.size, 0, none⟩ = some (.string (C.Nm i)) := ((Blk.new wr 40 #[.string (C.Nm i), .int .i64 (C.Ht i), .int .i64 (C.Pr i), .slice (C.AA i) (C.AN i) (C.AC i), .slice (C.BA i) (C.BN i) (C.BC i)]).call hb1).cell 0
             have HB1 : Hid (Below w.heap.size w w1) := (HW.out.alloc (by omega) _).trans (hb1.mono (by simp; omega))
             obtain ⟨hlk, -⟩ := HE.out w1 hb1
             clear hb1))
        go_ret
        exact ⟨rfl, HB1.out⟩
      rw [boolOf_false g2] at HE
      have HGD := Lib.hid (HST.out ⟨g1, fun j hj e => g2 ⟨j, hj, e⟩⟩)
      clear sv g1 g2
      go_wp2_with (first
        | (go_at_call 27
           with_reducible refine (SV.out _ ?_ ?_).mono ?_
           focus (exact HTA.out.below (Nat.le_refl _) (by (repeat' (first | assumption | exact Below.refl _ _ | exact Below.size (by assumption) | (refine Below.setCell ?_ ?_ _) | (refine Below.alloc ?_ ?_ _) | (refine Below.drew ?_) | (refine below_drewN ?_ _) | (refine Below.trans ?_ (Below.mono ‹Below _ _ _› ?_)) | omega | (simp; done) | (simp; omega) | (simp at *; omega)))))
           focus (exact HTB.out.below (Nat.le_refl _) (by (repeat' (first | assumption | exact Below.refl _ _ | exact Below.size (by assumption) | (refine Below.setCell ?_ ?_ _) | (refine Below.alloc ?_ ?_ _) | (refine Below.drew ?_) | (refine below_drewN ?_ _) | (refine Below.trans ?_ (Below.mono ‹Below _ _ _› ?_)) | omega | (simp; done) | (simp; omega) | (simp at *; omega)))))
           rintro e w1 ⟨rfl, hb1⟩
           have q0 : w1.cell? ⟨wr.heap.size, 0, none⟩ = some (.string (C.Nm i)) := ((Blk.new wr 40 #[.string (C.Nm i), .int .i64 (C.Ht i), .int .i64 (C.Pr i), .slice (C.AA i) (C.AN i) (C.AC i), .slice (C.BA i) (C.BN i) (C.BC i)]).call hb1).cell 0
           obtain ⟨hlk, w2, hup, hm2, hb2⟩ := HE.out w1 hb1
           have HM2 := Lib.hid hm2
           have HB2 := Lib.hid hb2
           clear hb1 hm2 hb2))
      go_roundw
      case rel => exact ⟨i', HI', rfl, HGD, HM2, HB2⟩
      case measure => exact HMS.out
    · have hin : i = c := by have := Hi.out; omega
      have T0 : decide ((i : Int) < (c : Int)) = false := by simp <;> omega
      have T0' : decide (i < c) = false := decide_eq_false hlt
      obtain rfl : V = true := by rw [HV.out]; exact boolOf_true ⟨H1.out, fun j hj => HG.out j (by omega)⟩
      clear hlt hin
      go_wp2_with fail
      go_ret
      exact ⟨rfl, HW.out⟩
end Go.Proofs.YthbdeaglncoanaaGreatDoor

namespace Go.Proofs.YthbdeaglncoanaaGreatDoor
open Go.RowKit
set_option linter.unusedVariables false
set_option linter.unusedSimpArgs false

theorem cut_line {s : ByteArray} {a b : List UInt8} (h : s.data.toList = a ++ 10 :: b) (ha : (10 : UInt8) ∉ a) (hs : s.size ≤ 8388608) (w : World) : Calls Tryz.prog 28 #[.string s, .string ⟨#[10]⟩] w fun e w' => e = .returned (.tuple #[.string ⟨a.toArray⟩, .string ⟨b.toArray⟩, .bool true]) ∧ Below w.heap.size w w' := by
  have hq : s = ⟨(a ++ 10 :: b).toArray⟩ := by
    apply bytes_ext
    rw [ByteArray.toList_eq, ByteArray.toList_eq, h]
  obtain ⟨e1, e2⟩ := cut_at (b := b) ha
  have e3 : cutF s 10 = true := by
    unfold cutF
    have hn : Lib.indexByte s.data.toList 10 ≠ -1 := fun q => by
      rcases index_split s.data.toList 10 with ⟨hn, _⟩ | ⟨a', b', h1, h2, h3⟩
      · exact hn (by rw [h]; simp)
      · omega
    rw [if_neg hn]
  refine (tcutc s hs 10 w).mono ?_
  rintro e w' ⟨rfl, hb⟩
  rw [e3]
  rw [← hq] at e1 e2
  rw [e1, e2]
  exact ⟨rfl, hb⟩
/-- What is to be read, ahead of the r-th line of the k-th section. -/
def rs3 (C : Scs) (n k : Nat) : Nat → List UInt8
  | 0 => rst C n k
  | 1 => ln2 C k ++ 10 :: (ln3 C k ++ 10 :: rst C n (k + 1))
  | _ => ln3 C k ++ 10 :: rst C n (k + 1)
/-- What Parse keeps. -/
structure PcI (w : World) (C : Scs) (n k r : Nat) (s : ByteArray) (A : Option Addr) (c : Nat) (M : List Sem) (v0 v1 v2 v3 v4 : Value) (W : World) : Prop where
  len : M.length = k
  own : W.ownsRow (w.heap.size + 1 + 1) 40 5 (.slice A k c) k (sct C M)
  sep : SepS W (Value.slice A k c).ownBlock (w.heap.size + 1 + 1) C M
  bel : Below w.heap.size w W
  pos : Blk W w.heap.size 32 #[.int .i64 0, .int .i64 0]
  box : Blk W (w.heap.size + 1) 40 #[v0, v1, v2, v3, v4]
  txt : s.data.toList = rs3 C n k r
  siz : s.size ≤ 8300 * n
  le : k ≤ n
  lt : r ≠ 0 → k < n
  hd : r ≠ 0 → v0 = .string (C.Nm k) ∧ v1 = .int .i64 (C.Ht k) ∧ v2 = .int .i64 (C.Pr k)
  tb : r = 2 → ∃ p c', v3 = .slice p (C.AN k) c' ∧ TabIn W p (C.AN k) (C.AX k) (C.AY k) ∧ (C.AN k ≠ 0 → ∀ b off, p = some ⟨b, off, none⟩ → some b ≠ (Value.slice A k c).ownBlock ∧ w.heap.size + 1 + 1 ≤ b)
def PcP (w : World) (C : Scs) (n : Nat) (e : Ending) (w' : World) : Prop := ∃ (A : Option Addr) (c : Nat) (M : List Sem), e = .returned (.tuple #[.slice A n c, .agg #[.int .i64 0, .int .i64 0], .int .i64 0]) ∧ M.length = n ∧ ScIn w' A n (scL C M) ∧ Below w.heap.size w w'
theorem tab_in {w : World} {g n : Nat} {X Y : Nat → Int} (hn : n ≤ 100) (h : TabAt w g 0 n X Y) : TabIn w (some ⟨g, 0, none⟩) n X Y := ⟨by omega, .inr ⟨g, 0, rfl, h⟩⟩
theorem rs3_zero {C : Scs} {n k : Nat} (h : k < n) : rs3 C n k 0 = ln1 C k ++ 10 :: rs3 C n k 1 := rst_at C h
theorem rs3_one (C : Scs) (n k : Nat) : rs3 C n k 1 = ln2 C k ++ 10 :: rs3 C n k 2 := rfl
theorem rs3_two (C : Scs) (n k : Nat) : rs3 C n k 2 = ln3 C k ++ 10 :: rs3 C n (k + 1) 0 := rfl
theorem ln_ne {s : ByteArray} {a b : List UInt8} (h : s.data.toList = a ++ 10 :: b) : s.toList ≠ [] := fun e => by
  rw [ByteArray.toList_eq, h] at e
  exact absurd e (by simp)
theorem ln_siz {s : ByteArray} {a b : List UInt8} {m : Nat} (h : s.data.toList = a ++ 10 :: b) (hs : s.size ≤ m) : (⟨b.toArray⟩ : ByteArray).size ≤ m ∧ (⟨a.toArray⟩ : ByteArray).size ≤ m := by
  have e : s.data.toList.length = s.size := rfl
  rw [h, List.length_append, List.length_cons] at e
  have e2 : (⟨b.toArray⟩ : ByteArray).size = b.length := rfl
  have e3 : (⟨a.toArray⟩ : ByteArray).size = a.length := rfl
  omega
theorem secA {C : Scs} {k : Nat} (h : secP C k) : TabOK (C.AN k) (C.AX k) (C.AY k) := h.2.2.2.2.2.1.1
theorem secB {C : Scs} {k : Nat} (h : secP C k) : TabOK (C.BN k) (C.BX k) (C.BY k) := h.2.2.2.2.2.2.1
theorem gb_refl {w : World} {row : Option Nat} : w.grownBy w row := ⟨rfl, rfl, rfl, Nat.le_refl _, fun _ _ _ => rfl⟩
theorem gb_trans {w w1 w2 : World} {row : Option Nat} (h : w.grownBy w1 row) (hb : w1.grownBy w2 row) : w.grownBy w2 row :=
  ⟨hb.os.trans h.os, hb.tape.trans h.tape, hb.output.trans h.output, Nat.le_trans h.size hb.size, fun k hk hr => (hb.block k (Nat.lt_of_lt_of_le hk h.size) hr).trans (h.block k hk hr)⟩
/-- A line more, the box alone turned. -/
theorem PcI.step {w W W' : World} {C : Scs} {n k r r' : Nat} {s q : ByteArray} {A : Option Addr} {c : Nat} {M : List Sem} {v0 v1 v2 v3 v4 u0 u1 u2 u3 u4 : Value} (h : PcI w C n k r s A c M v0 v1 v2 v3 v4 W) (hg : W.grownBy W' (some (w.heap.size + 1))) (hb : Blk W' (w.heap.size + 1) 40 #[u0, u1, u2, u3, u4])
    (hq : q.data.toList = rs3 C n k r' ∧ q.size ≤ 8300 * n) (hk : k < n) (hd : u0 = .string (C.Nm k) ∧ u1 = .int .i64 (C.Ht k) ∧ u2 = .int .i64 (C.Pr k))
    (ht : r' = 2 → ∃ p c', u3 = .slice p (C.AN k) c' ∧ TabIn W' p (C.AN k) (C.AX k) (C.AY k) ∧ (C.AN k ≠ 0 → ∀ b off, p = some ⟨b, off, none⟩ → some b ≠ (Value.slice A k c).ownBlock ∧ w.heap.size + 1 + 1 ≤ b)) : PcI w C n k r' q A c M u0 u1 u2 u3 u4 W' :=
  ⟨h.len, ownsRow_gb h.own hg (by omega), h.sep.grown hg (by omega), below_grown h.bel h.bel.size hg (fun g e => by cases e; omega), h.pos.grown hg (by simp), hb, hq.1, hq.2, h.le, fun _ => hk, fun _ => hd, ht⟩
theorem catP_scL {C : Scs} {M : List Sem} {n : Nat} (h : catP C n) : catP (scL C M) n := h
set_option maxRecDepth 100000 in
set_option maxHeartbeats 8000000 in
theorem c_Parse (C : Scs) (n : Nat) (h8 : n ≤ 20) (s : ByteArray) (hs : s.data.toList = catT C n) (hcat : catP C n) (w : World) (hE : EnvM w) :
    Calls Tryz.prog 11 #[.string s] w (PcP w C n) := by
  have HP : Hid (∀ k, k < n → secP C k) := fun k hk => (hcat.2 k hk).1
  have hz : s.size ≤ 8300 * n := by
    have e : s.data.toList.length = s.size := rfl
    have := rst_len (Nat.zero_le n) HP.out
    rw [rst_zero, ← hs, e] at this
    exact this
  have hz2 : (s.size : Int) ≤ 262144 := by omega
  have hz3 : decide ((262144 : Int) < (s.size : Int)) = false := decide_eq_false (by omega)
  have hz4 : decide (262144 < s.size) = false := decide_eq_false (by omega)
  have H0 : Hid (s.data.toList = rs3 C n 0 0 ∧ s.size ≤ 8300 * n) := ⟨by rw [hs]; exact (rst_zero C n).symm, hz⟩
  have HN := Lib.hid h8
  have HE := Lib.hid hE
  have HCAT := Lib.hid hcat
  clear h8 hs hcat hE hz
  go_enter Tryz.func11, Tryz.ntmps11
  go_upto_region 4 with fail
  go_upto_region 5 with fail
  have PI0 : Hid (PcI w C n 0 0 s none 0 [] (.string ⟨#[]⟩) (.int .i64 0) (.int .i64 0) (.slice none 0 0) (.slice none 0 0) ((w.alloc (Obj.cells #[.int .i64 0, .int .i64 0] 32)).alloc (Obj.cells #[.string ⟨#[]⟩, .int .i64 0, .int .i64 0, .slice none 0 0, .slice none 0 0] 40))) :=
    ⟨rfl, World.ownsRow_nil _ _ _ _, SepS.nil _ _ _ _, ((Below.refl _ w).alloc (Nat.le_refl _) _).alloc (by simp) _, (Blk.new _ _ _).alloc _, by have := Blk.new (w.alloc (Obj.cells #[.int .i64 0, .int .i64 0] 32)) 40 #[.string ⟨#[]⟩, .int .i64 0, .int .i64 0, .slice none 0 0, .slice none 0 0]; simpa using this, H0.out.1, H0.out.2, Nat.zero_le _, fun h => absurd rfl h, fun h => absurd rfl h, fun h => absurd h (by decide)⟩
  generalize (w.alloc (Obj.cells #[.int .i64 0, .int .i64 0] 32)).alloc (Obj.cells #[.string ⟨#[]⟩, .int .i64 0, .int .i64 0, .slice none 0 0, .slice none 0 0] 40) = w1 at PI0 ⊢
  clear hz2 hz3 hz4 H0
  go_wp2_with fail
  go_loopw [0, 5, 7] (fun t u v wr => ∃ (i k r : Nat) (s : ByteArray) (A : Option Addr) (c : Nat) (M : List Sem) (v0 v1 v2 v3 v4 : Value), Hid (i = 3 * k + r) ∧ Hid (r < 3) ∧ t = .string s ∧ u = .slice A k c ∧ v = .int .i64 i ∧ Hid (PcI w C n k r s A c M v0 v1 v2 v3 v4 wr)) (fun _ _ v _ => 3 * n - (RowKit.intOf v).toNat)
  case atStart => exact ⟨0, 0, 0, s, none, 0, [], _, _, _, _, _, rfl, (by decide : (0 : Nat) < 3), rfl, rfl, rfl, PI0⟩
  case round =>
    clear PI0
    obtain ⟨i, k, r, s, A, c, M, v0, v1, v2, v3, v4, Hi, Hr, rfl, rfl, rfl, HM⟩ := hrel
    have HR6 : Hid ((i : Int).tmod 3 = (r : Int)) := by
      show _ = _
      have h1 := Hi.out
      have h2 := Hr.out
      rw [Int.tmod_eq_emod_of_nonneg (by omega)]
      omega
    have rm := HR6.out
    have i0 : (0 : Int) ≤ (i : Int) := by omega
    have i1 : (i : Int) ≤ 60 := by
      have h1 := Hi.out
      have h2 := Hr.out
      have h3 := HM.out.le
      have h4 := HM.out.lt
      have h5 := HN.out
      by_cases h6 : r = 0
      · omega
      · have := h4 h6; omega
    obtain ⟨i', hi'⟩ : ∃ z, z = i + 1 := ⟨_, rfl⟩
    have x0 : IntKind.i64.wrap ((i : Int) + 1) = (i' : Int) := by rw [IntKind.wrap_i64]; omega
    have HI' : Hid (i' = i + 1) := hi'
    clear hi'
    have hlt3 : r = 0 ∨ r = 1 ∨ r = 2 := by have := Hr.out; omega
    rcases hlt3 with rfl | rfl | rfl
    · by_cases hkn : k < n
      case neg =>
        have hk : k = n := by have := HM.out.le; omega
        subst hk
        have hs0 : s = ⟨#[]⟩ := by
          have h1 := HM.out.txt
          apply bytes_ext
          rw [ByteArray.toList_eq, ByteArray.toList_eq, h1]
          exact rst_end C k
        subst hs0
        have HSS := Lib.hid (sections_of (by rw [HM.out.len]; exact HM.out.own) HM.out.sep (by rw [HM.out.len]; have := HN.out; omega))
        rw [HM.out.len] at HSS
        have HCT := Lib.hid (catP_scL (M := M) HCAT.out)
        have TC : Hid (∀ w', ScIn w' A k (scL C M) → Calls Tryz.prog 9 #[.slice A k c] w' fun e w'' => e = .returned (.bool true) ∧ Below w'.heap.size w' w'') := fun w' h => by
          have := tcat A k c (scL C M) (by have := HN.out; omega) (fun j hj => by
            have h1 := (secP_n (HP.out j hj)).2.2.2
            have e : (C.Nm j).data.toList.length = (C.Nm j).size := rfl
            show (C.Nm j).size ≤ maxLen
            unfold maxLen; omega) w' h
          rw [boolOf_true HCT.out] at this
          exact this
        have HSI := Lib.hid HSS.out.2
        clear HSS
        go_upto_region 22 with (first
          | (go_at_call 9
             with_reducible refine (TC.out _ HSI.out).mono ?_
             rintro e w4 ⟨rfl, hb4⟩
             have HSI := Lib.hid (HSI.out.below (Nat.le_refl _) hb4)
             have HPO := Lib.hid (HM.out.pos.call hb4)
             have HG4 : Hid (wr.grownBy w4 (some w.heap.size)) := gb_call gb_refl hb4
             have HBW := Lib.hid (below_step HM.out.bel hb4)
             clear hb4))
        have p0 := HPO.out.frozen 0
        have p1 := HPO.out.frozen 1
        have HRS := Lib.hid ((HPO.out.set_ 0 (.int .i64 0)).set_ 1 (.int .i64 0))
        obtain ⟨z0, z1⟩ := blk2 HRS.out
        obtain ⟨y0, y1⟩ := blk2 HPO.out
        have HBE : Hid (Below w.heap.size w ((w4.setCell ⟨w.heap.size, 0, none⟩ (.int .i64 0)).setCell ⟨w.heap.size, 1, none⟩ (.int .i64 0))) := (HBW.out.setCell (p := ⟨w.heap.size, 0, none⟩) (Nat.le_refl _) _).setCell (p := ⟨w.heap.size, 1, none⟩) (Nat.le_refl _) _
        have HGE : Hid (wr.grownBy ((w4.setCell ⟨w.heap.size, 0, none⟩ (.int .i64 0)).setCell ⟨w.heap.size, 1, none⟩ (.int .i64 0)) (some w.heap.size)) := gb_set (gb_set HG4.out 0 _) 1 _
        have HFI : Hid (ScIn ((w4.setCell ⟨w.heap.size, 0, none⟩ (.int .i64 0)).setCell ⟨w.heap.size, 1, none⟩ (.int .i64 0)) A k (scL C M)) := by
          have ho := ownsRow_gb HM.out.own HGE.out (by omega)
          have hs := HM.out.sep.grown HGE.out (by omega)
          have hl := HM.out.len
          have := (sections_of (by rw [hl]; exact ho) hs (by rw [hl]; have := HN.out; omega)).2
          rw [hl] at this
          exact this
        go_wp2_with fail
        refine bodyPost_ret (v := .tuple #[.slice A k c, .agg #[.int .i64 0, .int .i64 0], .int .i64 0]) (by simp [results, Tryz.results11, go_sem, z0, z1]) rfl ?_
        exact ⟨A, c, M, rfl, HM.out.len, HFI.out, HBE.out⟩
      have hlt := hkn
      clear hkn
      skip
      have hx : s.data.toList = ln1 C k ++ 10 :: rs3 C n k 1 := by rw [HM.out.txt]; exact rs3_zero hlt
      obtain ⟨t, ht⟩ : ∃ t : ByteArray, t = ⟨(ln1 C k).toArray⟩ := ⟨_, rfl⟩
      obtain ⟨q, hq⟩ : ∃ q : ByteArray, q = ⟨(rs3 C n k 1).toArray⟩ := ⟨_, rfl⟩
      have hsz := ln_siz hx HM.out.siz
      rw [← ht, ← hq] at hsz
      have h20 := HN.out
      have SC := Lib.hid fun w => cut_line hx (ln1_no (HP.out k hlt)) (by have := HM.out.siz; omega) w
      rw [← ht, ← hq] at SC
      have ne := ln_ne hx
      have ne1 : (s.toList == []) = false := by simp [ne]
      have ne2 : decide (s.toList = []) = false := by simp [ne]
      have HQ : Hid (q.data.toList = rs3 C n k 1 ∧ q.size ≤ 8300 * n) := ⟨by rw [hq], hsz.1⟩
      have HTD : Hid (t.data.toList = ln1 C k) := by show _ = _; rw [ht]
      have HSP := Lib.hid (HP.out k hlt)
      have HLT := Lib.hid hlt
      have HMS : Hid (3 * n - (RowKit.intOf (Value.int .i64 (i' : Int))).toNat < 3 * n - (RowKit.intOf (Value.int .i64 (i : Int))).toNat) := by
        have h1 := HI'.out
        have h2 := Hi.out
        show _ < _; simp [RowKit.intOf]; omega
      clear hlt hx ht hq hsz h20
      have SH : Hid (∀ w', wr.heap.size ≤ w'.heap.size → Below wr.heap.size wr w' → Calls Tryz.prog 29 #[.string t, .pointer (some ⟨w.heap.size + 1, 0, none⟩)] w' fun e w'' => e = .returned (.bool true) ∧ Blk w'' (w.heap.size + 1) 40 #[.string (C.Nm k), .int .i64 (C.Ht k), .int .i64 (C.Pr k), v3, v4] ∧ w'.grownBy w'' (some (w.heap.size + 1))) := fun w' _ hb => by
        have hbw : Below w.heap.size w w' := below_step HM.out.bel hb
        exact c_head C k t HSP.out HTD.out (w.heap.size + 1) v0 v1 v2 v3 v4 w' (HE.out.below hbw) (fun w'' hg => HE.out.below (below_grown hbw hbw.size hg fun g e => by cases e; omega)) (HM.out.box.call hb)
      go_wp2_with (first
        | (go_at_call 28
           with_reducible refine (SC.out _).mono ?_
           rintro e w4 ⟨rfl, hb4⟩
           have HB4 := Lib.hid hb4
           clear hb4)
        | (go_at_call 29
           with_reducible refine (SH.out _ HB4.out.size HB4.out).mono ?_
           rintro e w5 ⟨rfl, hbx, hg5⟩
           have HBX := Lib.hid hbx
           have HG5 := Lib.hid hg5
           clear hbx hg5))
      go_roundw
      case rel => exact ⟨i', k, 1, q, A, c, M, _, _, _, v3, v4, by have h1 := Hi.out; have h2 := HI'.out; show i' = 3 * k + 1; omega, (by decide : (1 : Nat) < 3), rfl, rfl, rfl, HM.out.step (gb_trans (gb_call gb_refl HB4.out) HG5.out) HBX.out HQ.out HLT.out ⟨rfl, rfl, rfl⟩ (fun h => absurd h (by decide))⟩
      case measure => exact HMS.out
    · have hlt : k < n := HM.out.lt (by decide)
      have hx : s.data.toList = ln2 C k ++ 10 :: rs3 C n k 2 := by rw [HM.out.txt]; exact rs3_one C n k
      obtain ⟨t, ht⟩ : ∃ t : ByteArray, t = ⟨(ln2 C k).toArray⟩ := ⟨_, rfl⟩
      obtain ⟨q, hq⟩ : ∃ q : ByteArray, q = ⟨(rs3 C n k 2).toArray⟩ := ⟨_, rfl⟩
      have hsz := ln_siz hx HM.out.siz
      rw [← ht, ← hq] at hsz
      have h20 := HN.out
      have SC := Lib.hid fun w => cut_line hx (ln2_no C k) (by have := HM.out.siz; omega) w
      rw [← ht, ← hq] at SC
      have ne := ln_ne hx
      have ne1 : (s.toList == []) = false := by simp [ne]
      have ne2 : decide (s.toList = []) = false := by simp [ne]
      have HQ : Hid (q.data.toList = rs3 C n k 2 ∧ q.size ≤ 8300 * n) := ⟨by rw [hq], hsz.1⟩
      have HTD : Hid (t.data.toList = ln2 C k) := by show _ = _; rw [ht]
      have HSP := Lib.hid (HP.out k hlt)
      have HLT := Lib.hid hlt
      have HMS : Hid (3 * n - (RowKit.intOf (Value.int .i64 (i' : Int))).toNat < 3 * n - (RowKit.intOf (Value.int .i64 (i : Int))).toNat) := by
        have h1 := HI'.out
        have h2 := Hi.out
        show _ < _; simp [RowKit.intOf]; omega
      clear hlt hx ht hq hsz h20
      have SCV : Hid (∀ w', Below wr.heap.size wr w' → Calls Tryz.prog 30 #[.string t, .string ⟨#[97, 114, 101, 97]⟩] w' fun e w'' => ∃ u, e = .returned (.tuple #[u, .bool true]) ∧ TbPost (C.AN k) (C.AX k) (C.AY k) w' u w'') := fun w' hb => by
        have hc := HSP.out
        have hl := ln_len HSP.out
        have e : t.data.toList.length = t.size := rfl
        rw [HTD.out] at e
        exact c_curve t ⟨#[97, 114, 101, 97]⟩ (C.AN k) (C.AX k) (C.AY k) (by omega) (by decide) (secA hc) HTD.out w' (HE.out.below (below_step HM.out.bel hb))
      have b3 := HM.out.box.cell 3
      have f3 := HM.out.box.frozen 3
      simp only [List.getElem?_toArray, List.getElem?_cons_zero, List.getElem?_cons_succ] at b3
      go_wp2_with (first
        | (go_at_call 28
           with_reducible refine (SC.out _).mono ?_
           rintro e w4 ⟨rfl, hb4⟩
           have HB4 := Lib.hid hb4
           clear hb4)
        | (go_at_call 30
           with_reducible refine (SCV.out _ HB4.out).mono ?_
           rintro e w5 ⟨u, rfl, g, cap, rfl, hg, ht, hb5⟩
           have HT5 := Lib.hid ht
           have HG5 : Hid (wr.heap.size ≤ g) := Nat.le_trans HB4.out.size hg
           have HB5 := Lib.hid (below_step HB4.out hb5)
           have HX5 := Lib.hid (HM.out.box.call HB5.out)
           clear hg ht hb5 b3 f3
           have b3 := HX5.out.cell 3
           have f3 := HX5.out.frozen 3
           simp only [List.getElem?_toArray, List.getElem?_cons_zero, List.getElem?_cons_succ] at b3))
      go_roundw
      case rel =>
        have hl5 : w.heap.size + 1 + 1 ≤ wr.heap.size := HM.out.box.lt
        have h100 : C.AN k ≤ 100 := (secA HSP.out).2.1
        have hgk : w5.grownBy (w5.setCell ⟨w.heap.size + 1, 3, none⟩ (.slice (some ⟨g, 0, none⟩) (C.AN k) cap)) (some (w.heap.size + 1)) := gr_set _ _ _ _
        have hg5 := HG5.out
        refine ⟨i', k, 2, q, A, c, M, _, _, _, _, v4, by have h1 := Hi.out; have h2 := HI'.out; show i' = 3 * k + 2; omega, (by decide : (2 : Nat) < 3), rfl, rfl, rfl, HM.out.step (gb_trans (gb_call gb_refl HB5.out) hgk) (HX5.out.set_ 3 _) HQ.out HLT.out (HM.out.hd (by decide)) (fun _ => ⟨_, _, rfl, (tab_in h100 HT5.out).grown hgk (fun _ b off e e2 => ?_), fun _ b off e => ?_⟩)⟩
        · cases e; have := Option.some.inj e2; omega
        · cases e
          refine ⟨fun e2 => ?_, by omega⟩
          have := (HM.out.own.lt g e2.symm).2
          omega
      case measure => exact HMS.out
    · have hlt : k < n := HM.out.lt (by decide)
      have hx : s.data.toList = ln3 C k ++ 10 :: rs3 C n (k + 1) 0 := by rw [HM.out.txt]; exact rs3_two C n k
      obtain ⟨t, ht⟩ : ∃ t : ByteArray, t = ⟨(ln3 C k).toArray⟩ := ⟨_, rfl⟩
      obtain ⟨q, hq⟩ : ∃ q : ByteArray, q = ⟨(rs3 C n (k + 1) 0).toArray⟩ := ⟨_, rfl⟩
      have hsz := ln_siz hx HM.out.siz
      rw [← ht, ← hq] at hsz
      have h20 := HN.out
      have SC := Lib.hid fun w => cut_line hx (ln3_no C k) (by have := HM.out.siz; omega) w
      rw [← ht, ← hq] at SC
      have ne := ln_ne hx
      have ne1 : (s.toList == []) = false := by simp [ne]
      have ne2 : decide (s.toList = []) = false := by simp [ne]
      have HQ : Hid (q.data.toList = rs3 C n (k + 1) 0 ∧ q.size ≤ 8300 * n) := ⟨by rw [hq], hsz.1⟩
      have HTD : Hid (t.data.toList = ln3 C k) := by show _ = _; rw [ht]
      have HSP := Lib.hid (HP.out k hlt)
      have HLT := Lib.hid hlt
      have HMS : Hid (3 * n - (RowKit.intOf (Value.int .i64 (i' : Int))).toNat < 3 * n - (RowKit.intOf (Value.int .i64 (i : Int))).toNat) := by
        have h1 := HI'.out
        have h2 := Hi.out
        show _ < _; simp [RowKit.intOf]; omega
      clear hlt hx ht hq hsz h20
      obtain ⟨rfl, rfl, rfl⟩ := HM.out.hd (by decide)
      obtain ⟨pa, ca, rfl, hpa, hpf⟩ := HM.out.tb rfl
      have HPA := Lib.hid hpa
      have HPF := Lib.hid hpf
      clear hpa hpf
      have SCV : Hid (∀ w', Below wr.heap.size wr w' → Calls Tryz.prog 30 #[.string t, .string ⟨#[99, 111, 110, 118, 101, 121, 97, 110, 99, 101]⟩] w' fun e w'' => ∃ u, e = .returned (.tuple #[u, .bool true]) ∧ TbPost (C.BN k) (C.BX k) (C.BY k) w' u w'') := fun w' hb => by
        have hc := HSP.out
        have hl := ln_len HSP.out
        have e : t.data.toList.length = t.size := rfl
        rw [HTD.out] at e
        exact c_curve t ⟨#[99, 111, 110, 118, 101, 121, 97, 110, 99, 101]⟩ (C.BN k) (C.BX k) (C.BY k) (by omega) (by decide) (secB hc) HTD.out w' (HE.out.below (below_step HM.out.bel hb))
      have b4 := HM.out.box.cell 4
      have f4 := HM.out.box.frozen 4
      simp only [List.getElem?_toArray, List.getElem?_cons_zero, List.getElem?_cons_succ] at b4
      go_upto_region 12 with (first
        | (go_at_call 28
           with_reducible refine (SC.out _).mono ?_
           rintro e w4 ⟨rfl, hb4⟩
           have HB4 := Lib.hid hb4
           clear hb4)
        | (go_at_call 30
           with_reducible refine (SCV.out _ HB4.out).mono ?_
           rintro e w5 ⟨u, rfl, g, cap, rfl, hg, ht, hb5⟩
           have HT5 := Lib.hid ht
           have HG5 : Hid (wr.heap.size ≤ g) := Nat.le_trans HB4.out.size hg
           have HB5 := Lib.hid (below_step HB4.out hb5)
           have HX5 := Lib.hid (HM.out.box.call HB5.out)
           clear hg ht hb5 b4 f4
           have b4 := HX5.out.cell 4
           have f4 := HX5.out.frozen 4
           simp only [List.getElem?_toArray, List.getElem?_cons_zero, List.getElem?_cons_succ] at b4))
      have HGB := Lib.hid (gb_trans (gb_call gb_refl HB5.out) (gr_set w5 (w.heap.size + 1) 4 (.slice (some ⟨g, 0, none⟩) (C.BN k) cap)))
      have HX6 := Lib.hid (HX5.out.set_ 4 (.slice (some ⟨g, 0, none⟩) (C.BN k) cap))
      have HT6 : Hid (TabIn (w5.setCell ⟨w.heap.size + 1, 4, none⟩ (.slice (some ⟨g, 0, none⟩) (C.BN k) cap)) (some ⟨g, 0, none⟩) (C.BN k) (C.BX k) (C.BY k)) := by
        have hl5 : w.heap.size + 1 + 1 ≤ wr.heap.size := HM.out.box.lt
        have hg5 := HG5.out
        refine (tab_in (secB HSP.out).2.1 HT5.out).grown (gr_set w5 (w.heap.size + 1) 4 _) (fun _ b off e e2 => ?_)
        cases e; have := Option.some.inj e2; omega
      have HP6 : Hid (TabIn (w5.setCell ⟨w.heap.size + 1, 4, none⟩ (.slice (some ⟨g, 0, none⟩) (C.BN k) cap)) pa (C.AN k) (C.AX k) (C.AY k)) := by
        refine HPA.out.grown HGB.out (fun h0 b off e e2 => ?_)
        have := (HPF.out h0 b off e).2
        have := Option.some.inj e2
        omega
      have HF6 : Hid (C.BN k ≠ 0 → ∀ b off, (some ⟨g, 0, none⟩ : Option Addr) = some ⟨b, off, none⟩ → some b ≠ (Value.slice A k c).ownBlock ∧ w.heap.size + 1 + 1 ≤ b) := fun _ b off e => by
        have hl5 : w.heap.size + 1 + 1 ≤ wr.heap.size := HM.out.box.lt
        have hg5 := HG5.out
        cases e
        refine ⟨fun e2 => ?_, by omega⟩
        have := (HM.out.own.lt g e2.symm).2
        omega
      clear b4 f4 HB5 HX5 HT5 HG5 HPA
      generalize w5.setCell ⟨w.heap.size + 1, 4, none⟩ (.slice (some ⟨g, 0, none⟩) (C.BN k) cap) = w6 at HGB HX6 HT6 HP6 ⊢
      simp only [List.setIfInBounds_toArray, List.set_cons_zero, List.set_cons_succ] at HX6
      obtain ⟨p, hp⟩ : ∃ p : Sem, p = ⟨pa, ca, some ⟨g, 0, none⟩, cap⟩ := ⟨_, rfl⟩
      have HML := Lib.hid HM.out.len
      have HO6 := Lib.hid (ownsRow_gb HM.out.own HGB.out (by omega))
      have HS6 := Lib.hid (HM.out.sep.grown HGB.out (by omega))
      have hal7 : Below w6.heap.size w6 (w6.alloc (Obj.cells #[.string (C.Nm k), .int .i64 (C.Ht k), .int .i64 (C.Pr k), .slice pa (C.AN k) ca, .slice (some ⟨g, 0, none⟩) (C.BN k) cap] 40)) := (Below.refl _ _).alloc (Nat.le_refl _) _
      have HX7 : Hid (Blk (w6.alloc (Obj.cells #[.string (C.Nm k), .int .i64 (C.Ht k), .int .i64 (C.Pr k), .slice pa (C.AN k) ca, .slice (some ⟨g, 0, none⟩) (C.BN k) cap] 40)) w6.heap.size 40 (semA C M.length p).toArray) := by
        rw [HML.out, hp]
        exact Blk.new _ _ _
      have HG7 : Hid (wr.grownBy (w6.alloc (Obj.cells #[.string (C.Nm k), .int .i64 (C.Ht k), .int .i64 (C.Pr k), .slice pa (C.AN k) ca, .slice (some ⟨g, 0, none⟩) (C.BN k) cap] 40)) (some (w.heap.size + 1))) := gb_call HGB.out hal7
      have HO7 : Hid ((w6.alloc (Obj.cells #[.string (C.Nm k), .int .i64 (C.Ht k), .int .i64 (C.Pr k), .slice pa (C.AN k) ca, .slice (some ⟨g, 0, none⟩) (C.BN k) cap] 40)).ownsRow (w.heap.size + 1 + 1) 40 5 (.slice A k c) M.length (sct C M)) := by
        rw [HML.out]
        exact ownsRow_gb HM.out.own HG7.out (by omega)
      have HS7 := Lib.hid (HM.out.sep.grown HG7.out (by omega))
      have HT7 := Lib.hid (HT6.out.below (Nat.le_refl _) hal7)
      have HP7 := Lib.hid (HP6.out.below (Nat.le_refl _) hal7)
      have HX6b := Lib.hid (HX6.out.call hal7)
      have HSZ : Hid (w.heap.size + 1 + 1 ≤ (w6.alloc (Obj.cells #[.string (C.Nm k), .int .i64 (C.Ht k), .int .i64 (C.Pr k), .slice pa (C.AN k) ca, .slice (some ⟨g, 0, none⟩) (C.BN k) cap] 40)).heap.size) := HX6b.out.lt
      have HLL : Hid (M.length ≤ 20000) := by show _ ≤ _; rw [HML.out]; have := HM.out.le; have := HN.out; omega
      have HPE : Hid (p = ⟨pa, ca, some ⟨g, 0, none⟩, cap⟩) := hp
      clear hal7 hp
      obtain ⟨b0, b1, b2, b3, b4⟩ := blk5 HX6.out
      go_wp2_with (first
        | (at_builtin
           refine wpList_append_se rfl (.tmp 39) (.tmp 41) rfl (w.heap.size + 1 + 1) (.slice A k c) C M rfl HO7.out w6.heap.size p rfl HX7.out HLL.out _ (Below.refl _ _) HSZ.out ?_
           intro A9 c9 w9 ho9 hb9 hg9 hat9
           rw [List.length_append, List.length_singleton, HML.out] at ho9 hat9
           rw [List.length_append, List.length_singleton, HML.out]
           have HO9 := Lib.hid ho9
           have HB9 := Lib.hid hb9
           have HG9 := Lib.hid hg9
           have HA9 := Lib.hid hat9
           clear ho9 hb9 hg9 hat9))
      go_roundw
      case rel =>
        have hml : M.length = k := HML.out
        have hpe : p = ⟨pa, ca, some ⟨g, 0, none⟩, cap⟩ := HPE.out
        have hl : (M ++ [p]).length = k + 1 := by rw [List.length_append, List.length_singleton, hml]
        have hb7 := below_grown HM.out.bel HM.out.bel.size HG7.out (fun g e => by cases e; omega)
        refine ⟨i', k + 1, 0, q, A9, c9, M ++ [p], _, _, _, _, _, by have h1 := Hi.out; have h2 := HI'.out; show i' = 3 * (k + 1) + 0; omega, (by decide : (0 : Nat) < 3), rfl, rfl, rfl, ⟨hl, HO9.out, ?_, hb7.trans (HB9.out.mono (by omega)), (HM.out.pos.grown HG7.out (by simp)).below HB9.out (by omega), HX6b.out.below HB9.out (by omega), HQ.out.1, HQ.out.2, HLT.out, fun h => absurd rfl h, fun h => absurd rfl h, fun h => absurd h (by decide)⟩⟩
        refine SepS.app HS7.out ?_ ?_ HG9.out HA9.out
        · rw [hpe, hml]; exact ⟨HP7.out, HPF.out⟩
        · rw [hpe, hml]; exact ⟨HT7.out, HF6.out⟩
      case measure => exact HMS.out
end Go.Proofs.YthbdeaglncoanaaGreatDoor

namespace Go.Proofs.YthbdeaglncoanaaGreatDoor
open Go.RowKit
set_option linter.unusedVariables false
set_option linter.unusedSimpArgs false

/-- What a search for a name finds. -/
def FndP (C : Scs) (n : Nat) (nm : ByteArray) (v : Int) : Prop := (∃ k : Nat, k < n ∧ C.Nm k = nm ∧ (∀ j, j < k → C.Nm j ≠ nm) ∧ v = (k : Int)) ∨ ((∀ j, j < n → C.Nm j ≠ nm) ∧ v = -1)
theorem nm_eq {a b : ByteArray} (h : a = b) : (a.toList == b.toList) = true := by rw [h]; simp
theorem nm_ne {a b : ByteArray} (h : a ≠ b) : (a.toList == b.toList) = false := by
  rw [beq_eq_false_iff_ne]
  exact fun q => h (bytes_ext q)
set_option maxRecDepth 100000 in
set_option maxHeartbeats 4000000 in
theorem r_find (A : Option Addr) (n c : Nat) (C : Scs) (nm : ByteArray) (h2 : n ≤ 2000) (w : World) (hC : ScIn w A n C) :
    Calls Tryz.prog 10 #[.slice A n c, .string nm] w fun e w' => (∃ v, e = .returned (.int .i64 v) ∧ FndP C n nm v) ∧ Below w.heap.size w w' := by
  have HC := Lib.hid hC
  have HN := Lib.hid h2
  clear hC h2
  go_enter Tryz.func10, Tryz.ntmps10
  go_upto_region 1 with fail
  have HW0 := Lib.hid (Below.refl w.heap.size w)
  go_wp2_with fail
  go_loopw [5] (fun u wr => ∃ i : Nat, Hid (i ≤ n) ∧ u = .int .i64 i ∧ Hid (∀ j, j < i → C.Nm j ≠ nm) ∧ Hid (Below w.heap.size w wr)) (fun u _ => n - (RowKit.intOf u).toNat)
  case atStart => exact ⟨0, Nat.zero_le _, rfl, fun j hj => absurd hj (Nat.not_lt_zero _), HW0⟩
  case round =>
    obtain ⟨i, Hi, rfl, HG, HW⟩ := hrel
    by_cases hlt : i < n
    case neg =>
      have T0 : decide ((i : Int) < (n : Int)) = false := by simp <;> omega
      have T0' : decide (i < n) = false := decide_eq_false hlt
      have e : i = n := by have := Hi.out; omega
      subst e
      clear hlt
      go_wp2_with fail
      go_ret
      exact ⟨⟨_, rfl, .inr ⟨HG.out, rfl⟩⟩, HW.out⟩
    have T0 : decide ((i : Int) < (n : Int)) = true := by simp <;> omega
    have T0' : decide (i < n) = true := decide_eq_true hlt
    obtain ⟨i', hi'⟩ : ∃ z, z = i + 1 := ⟨_, rfl⟩
    have x0 : IntKind.i64.wrap ((i : Int) + 1) = (i' : Int) := by have := HN.out; rw [IntKind.wrap_i64]; omega
    have k0 : (0 : Int) ≤ (i : Int) := by omega
    have k1 : (i : Int) < (n : Int) := by omega
    have HMS : Hid (n - (RowKit.intOf (Value.int .i64 (i' : Int))).toNat < n - (RowKit.intOf (Value.int .i64 (i : Int))).toNat) := by show _ < _; simp [RowKit.intOf]; omega
    have HI' : Hid (i' ≤ n) := by show _ ≤ _; omega
    have HII : Hid (i + 1 = i') := hi'.symm
    obtain ⟨bk, off, rfl, hbk, hCc, _, _⟩ := (HC.out.below (Nat.le_refl _) HW.out).at hlt
    have c0 := hCc 0 _ rfl
    simp only [Nat.add_zero] at c0
    have HLT := Lib.hid hlt
    clear hi' hlt hCc
    by_cases hq : C.Nm i = nm
    · have t1 := nm_eq hq
      have HQ := Lib.hid hq
      generalize C.Nm i = ni at c0 t1
      clear hq
      go_wp2_with fail
      go_ret
      exact ⟨⟨_, rfl, .inl ⟨i, HLT.out, HQ.out, HG.out, rfl⟩⟩, HW.out⟩
    · have t1 := nm_ne hq
      have HQ := Lib.hid hq
      generalize C.Nm i = ni at c0 t1
      clear hq
      go_wp2_with fail
      go_roundw
      case rel => exact ⟨i', HI', rfl, fun j hj => by
        rcases Nat.lt_or_ge j i with g | g
        · exact HG.out j g
        · have : j = i := by have := HII.out; omega
          rw [this]; exact HQ.out, HW⟩
      case measure => exact HMS.out
set_option maxRecDepth 100000 in
set_option maxHeartbeats 4000000 in
theorem r_valid (A : Option Addr) (n c : Nat) (C : Scs) (h2 : n ≤ 2000) (hn : ∀ k, k < n → (C.Nm k).size ≤ maxLen) (w : World) (hC : ScIn w A n C) :
    Calls Tryz.prog 6 #[.slice A n c] w fun e w' => e = .returned (.bool (boolOf (catP C n))) ∧ Below w.heap.size w w' := by
  have HC := Lib.hid hC
  have HN := Lib.hid h2
  have HNM := Lib.hid hn
  obtain ⟨V, hV⟩ : ∃ V, V = boolOf (catP C n) := ⟨_, rfl⟩
  rw [← hV]
  have HV := Lib.hid hV
  by_cases h1 : n ≤ 40
  case neg =>
    have t1 : decide ((40 : Int) < (n : Int)) = true := decide_eq_true (by omega)
    have t1' : decide (40 < n) = true := decide_eq_true (by omega)
    obtain rfl : V = false := by rw [hV]; exact boolOf_false fun h => h1 h.1
    clear hV HV hC hn h2 h1
    go_enter Tryz.func6, Tryz.ntmps6
    go_wp2_with fail
    go_ret
    exact ⟨rfl, Below.refl _ _⟩
  have t1 : decide ((40 : Int) < (n : Int)) = false := decide_eq_false (by omega)
  have t1' : decide (40 < n) = false := decide_eq_false (by omega)
  have H1 := Lib.hid h1
  clear hV hC hn h2 h1
  go_enter Tryz.func6, Tryz.ntmps6
  go_upto_region 3 with fail
  have HW0 := Lib.hid (Below.refl w.heap.size w)
  go_wp2_with fail
  go_loopw [3] (fun u wr => ∃ i : Nat, Hid (i ≤ n) ∧ u = .int .i64 i ∧ Hid (∀ j, j < i → scnP C j) ∧ Hid (Below w.heap.size w wr)) (fun u _ => n - (RowKit.intOf u).toNat)
  case atStart => exact ⟨0, Nat.zero_le _, rfl, fun j hj => absurd hj (Nat.not_lt_zero _), HW0⟩
  case round =>
    obtain ⟨i, Hi, rfl, HG, HW⟩ := hrel
    by_cases hlt : i < n
    case neg =>
      have T0 : decide ((i : Int) < (n : Int)) = false := by simp <;> omega
      have T0' : decide (i < n) = false := decide_eq_false hlt
      have e : i = n := by have := Hi.out; omega
      subst e
      obtain rfl : V = true := by rw [HV.out]; exact boolOf_true ⟨H1.out, HG.out⟩
      clear hlt
      go_wp2_with fail
      go_ret
      exact ⟨rfl, HW.out⟩
    have T0 : decide ((i : Int) < (n : Int)) = true := by simp <;> omega
    have T0' : decide (i < n) = true := decide_eq_true hlt
    obtain ⟨i', hi'⟩ : ∃ z, z = i + 1 := ⟨_, rfl⟩
    have x0 : IntKind.i64.wrap ((i : Int) + 1) = (i' : Int) := by have := HN.out; rw [IntKind.wrap_i64]; omega
    have k0 : (0 : Int) ≤ (i : Int) := by omega
    have k1 : (i : Int) < (n : Int) := by omega
    have HMS : Hid (n - (RowKit.intOf (Value.int .i64 (i' : Int))).toNat < n - (RowKit.intOf (Value.int .i64 (i : Int))).toNat) := by show _ < _; simp [RowKit.intOf]; omega
    have HI' : Hid (i' ≤ n) := by show _ ≤ _; omega
    have HII : Hid (i + 1 = i') := hi'.symm
    have HCW := Lib.hid (HC.out.below (Nat.le_refl _) HW.out)
    obtain ⟨bk, off, rfl, hbk, hCc, hta, htb⟩ := HCW.out.at hlt
    have c0 := hCc 0 _ rfl
    have c1 := hCc 1 _ rfl
    have c2 := hCc 2 _ rfl
    have c3 := hCc 3 _ rfl
    have c4 := hCc 4 _ rfl
    simp only [Nat.add_zero] at c0
    have HLT := Lib.hid hlt
    have SR := Lib.hid (rsright (C.Nm i) (C.Ht i) (C.Pr i) (C.AA i) (C.BA i) (C.AN i) (C.AC i) (C.BN i) (C.BC i) (C.AX i) (C.AY i) (C.BX i) (C.BY i) wr (HNM.out i hlt) hta htb)
    have SF : Hid (∀ w', Below wr.heap.size wr w' → Calls Tryz.prog 10 #[.slice (some ⟨bk, off, none⟩) n c, .string (C.Nm i)] w' fun e w'' => (∃ v, e = .returned (.int .i64 v) ∧ FndP C n (C.Nm i) v) ∧ Below w'.heap.size w' w'') := fun w' hb => r_find _ n c C (C.Nm i) HN.out w' (HCW.out.below (Nat.le_refl _) hb)
    have hfp : ∀ v, FndP C n (C.Nm i) v → ((∀ j, j < i → C.Nm j ≠ C.Nm i) ∧ v = (i : Int)) ∨ (¬ (∀ j, j < i → C.Nm j ≠ C.Nm i) ∧ v ≠ (i : Int)) := by
      rintro v (⟨k, hk, h1, h2, rfl⟩ | ⟨h1, rfl⟩)
      · rcases Nat.lt_trichotomy k i with g | g | g
        · exact .inr ⟨fun q => q k g h1, by omega⟩
        · subst g; exact .inl ⟨h2, rfl⟩
        · exact absurd rfl (h2 i g)
      · exact absurd rfl (h1 i hlt)
    have HFP := Lib.hid hfp
    have hb0 : Below wr.heap.size wr wr := Below.refl _ _
    have HCG := Lib.hid (hCc 0 _ rfl)
    have HBK := Lib.hid hbk
    obtain ⟨R, hR⟩ : ∃ R, R = boolOf (SecOK (C.Nm i).data.toList (C.Ht i) (C.Pr i) (C.AN i) (C.AX i) (C.AY i) (C.BN i) (C.BX i) (C.BY i)) := ⟨_, rfl⟩
    rw [← hR] at SR
    have hRP : R = boolOf (secP C i) := hR
    have HRP := Lib.hid hRP
    clear hi' hlt hCc hta htb hfp hb0 hR hRP hbk
    cases R with
    | false =>
      have HNP : Hid (¬ secP C i) := fun h => by have := HRP.out; rw [boolOf_true h] at this; cases this
      obtain rfl : V = false := by rw [HV.out]; exact boolOf_false fun h => HNP.out (h.2 i HLT.out).1
      go_wp2_with (first
        | (go_at_call 20
           with_reducible refine SR.out.mono ?_
           rintro e w4 ⟨rfl, hb4⟩
           have HW4 := Lib.hid (below_step HW.out hb4)
           clear hb4))
      go_ret
      exact ⟨rfl, HW4.out⟩
    | true =>
    have HPP : Hid (secP C i) := of_boolOf HRP.out.symm
    go_wp2_with (first
      | (go_at_call 20
         with_reducible refine SR.out.mono ?_
         rintro e w4 ⟨rfl, hb4⟩
         have HW4 := Lib.hid hb4
         have c0 := (hb4.cell (p := ⟨bk, off + i * 5 + 0, none⟩) HBK.out).trans HCG.out
         simp only [Nat.add_zero] at c0
         clear hb4)
      | (go_at_call 10
         with_reducible refine (SF.out _ HW4.out).mono ?_
         rintro e w5 ⟨⟨v, rfl, hv⟩, hb5⟩
         have HW5 := Lib.hid (below_step HW.out (below_step HW4.out hb5))
         have HV5 := Lib.hid (HFP.out v hv)
         clear hb5 hv))
    · rename_i hvn
      have hvi : v ≠ (i : Int) := by simpa using hvn
      obtain rfl : V = false := by rw [HV.out]; exact boolOf_false fun h => HV5.out.elim (fun q => hvi q.2) (fun q => q.1 (h.2 i HLT.out).2)
      go_ret
      exact ⟨rfl, HW5.out⟩
    · rename_i hvn
      have hvi : v = (i : Int) := by simpa using hvn
      have HNO : Hid (∀ j, j < i → C.Nm j ≠ C.Nm i) := HV5.out.elim (fun q => q.1) (fun q => absurd hvi q.2)
      clear hvn hvi
      go_roundw
      case rel => exact ⟨i', HI', rfl, fun j hj => by
        rcases Nat.lt_or_ge j i with g | g
        · exact HG.out j g
        · have : j = i := by have := HII.out; omega
          rw [this]; exact ⟨HPP.out, HNO.out⟩, HW5⟩
      case measure => exact HMS.out
end Go.Proofs.YthbdeaglncoanaaGreatDoor

namespace Go.Proofs.YthbdeaglncoanaaGreatDoor
open Go.RowKit
set_option linter.unusedVariables false
set_option linter.unusedSimpArgs false

set_option maxRecDepth 100000 in
theorem p_cfind (nm s : ByteArray) (h p : Int) (A B : Option Addr) (na ca nb cb : Nat) (g : Nat) (f : Bool) (hf : f = decide (nm = s)) (w : World) (hy : w.cell? ⟨g, 0, none⟩ = some (.string s)) (hg : g < w.heap.size) :
    Calls Tryz.prog 22 #[.agg #[.string nm, .int .i64 h, .int .i64 p, .slice A na ca, .slice B nb cb], .pointer (some ⟨g, 0, none⟩)] w fun e w' => e = .returned (.bool f) ∧ Below w.heap.size w w' := by
  by_cases h : nm = s
  · subst h
    obtain rfl : f = true := by rw [hf]; simp
    clear hf
    go_enter Tryz.func22, Tryz.ntmps22
    go_wp2_with fail
    go_ret
    exact ⟨by first | rfl | (simp; done), by (repeat' (first | assumption | exact Below.refl _ _ | exact Below.size (by assumption) | (refine Below.setCell ?_ ?_ _) | (refine Below.alloc ?_ ?_ _) | (refine Below.drew ?_) | (refine below_drewN ?_ _) | (refine Below.trans ?_ (Below.mono ‹Below _ _ _› ?_)) | omega | (simp; done) | (simp; omega) | (simp at *; omega)))⟩
  · have t1 : ¬ nm.toList = s.toList := fun e => h (bytes_ext e)
    have t2 : (nm.toList == s.toList) = false := by simp [t1]
    obtain rfl : f = false := by rw [hf]; exact decide_eq_false h
    clear hf h
    go_enter Tryz.func22, Tryz.ntmps22
    go_wp2_with fail
    go_ret
    exact ⟨by first | rfl | (simp; done), by (repeat' (first | assumption | exact Below.refl _ _ | exact Below.size (by assumption) | (refine Below.setCell ?_ ?_ _) | (refine Below.alloc ?_ ?_ _) | (refine Below.drew ?_) | (refine below_drewN ?_ _) | (refine Below.trans ?_ (Below.mono ‹Below _ _ _› ?_)) | omega | (simp; done) | (simp; omega) | (simp at *; omega)))⟩
set_option maxRecDepth 100000 in
set_option maxHeartbeats 4000000 in
theorem c_index (A : Option Addr) (n c : Nat) (C : Scs) (s : ByteArray) (g : Nat) (w : World) (h2 : n ≤ 2000) (ht : ScIn w A n C) (hy : w.cell? ⟨g, 0, none⟩ = some (.string s)) (hg : g < w.heap.size) :
    Calls Tryz.prog 21 #[.slice A n c, .func (.func 22) #[] #[.pointer (some ⟨g, 0, none⟩)]] w fun e w' => (∃ v, e = .returned (.int .i64 v) ∧ FndP C n s v) ∧ Below w.heap.size w w' := by
  have HC := Lib.hid ht
  have HN := Lib.hid h2
  have HY := Lib.hid hy
  clear hy ht h2
  go_enter Tryz.func21, Tryz.ntmps21
  have HW0 := Lib.hid (Below.refl w.heap.size w)
  go_wp2_with fail
  go_loopw [8] (fun u wr => ∃ i : Nat, Hid (i ≤ n) ∧ u = .int .i64 i ∧ Hid (∀ j, j < i → C.Nm j ≠ s) ∧ Hid (Below w.heap.size w wr)) (fun u _ => n - (RowKit.intOf u).toNat)
  case atStart => exact ⟨0, Nat.zero_le _, rfl, fun j hj => absurd hj (Nat.not_lt_zero _), HW0⟩
  case round =>
    obtain ⟨i, Hi, rfl, HG, HW⟩ := hrel
    by_cases hlt : i < n
    case neg =>
      have T0 : decide ((i : Int) < (n : Int)) = false := by simp <;> omega
      have T0' : decide (i < n) = false := decide_eq_false hlt
      have e : i = n := by have := Hi.out; omega
      subst e
      clear hlt
      go_wp2_with fail
      go_ret
      exact ⟨⟨_, rfl, .inr ⟨HG.out, rfl⟩⟩, HW.out⟩
    have T0 : decide ((i : Int) < (n : Int)) = true := by simp <;> omega
    have T0' : decide (i < n) = true := decide_eq_true hlt
    obtain ⟨i', hi'⟩ : ∃ z, z = i + 1 := ⟨_, rfl⟩
    have x0 : IntKind.i64.wrap ((i : Int) + 1) = (i' : Int) := by have := HN.out; rw [IntKind.wrap_i64]; omega
    have k0 : (0 : Int) ≤ (i : Int) := by omega
    have k1 : (i : Int) < (n : Int) := by omega
    have HMS : Hid (n - (RowKit.intOf (Value.int .i64 (i' : Int))).toNat < n - (RowKit.intOf (Value.int .i64 (i : Int))).toNat) := by show _ < _; simp [RowKit.intOf]; omega
    have HI' : Hid (i' ≤ n) := by show _ ≤ _; omega
    have HII : Hid (i + 1 = i') := hi'.symm
    obtain ⟨bk, off, rfl, hbk, hCc, _, _⟩ := (HC.out.below (Nat.le_refl _) HW.out).at hlt
    have c0 := hCc 0 _ rfl
    have c1 := hCc 1 _ rfl
    have c2 := hCc 2 _ rfl
    have c3 := hCc 3 _ rfl
    have c4 := hCc 4 _ rfl
    simp only [Nat.add_zero] at c0
    have HLT := Lib.hid hlt
    have hyr : wr.cell? ⟨g, 0, none⟩ = some (.string s) := (HW.out.cell (p := ⟨g, 0, none⟩) hg).trans HY.out
    have hgr : g < wr.heap.size := Nat.lt_of_lt_of_le hg HW.out.size
    obtain ⟨f, hf⟩ : ∃ f, f = decide (C.Nm i = s) := ⟨_, rfl⟩
    have KK := Lib.hid (p_cfind (C.Nm i) s (C.Ht i) (C.Pr i) (C.AA i) (C.BA i) (C.AN i) (C.AC i) (C.BN i) (C.BC i) g f hf wr hyr hgr)
    have HF := Lib.hid hf
    clear hi' hlt hCc hyr hgr hf
    cases f with
    | true =>
      have HQ : Hid (C.Nm i = s) := show C.Nm i = s from by simpa using HF.out.symm
      go_wp2_with (first | (go_at_call 22; (with_reducible refine (KK.out).mono ?_); rintro e w1 ⟨rfl, hb1⟩; obtain ⟨hc1, hf1⟩ := bcell hb1; have hz1 := hb1.size; (try simp at hz1); (try simp only [heap_drew, World.heap_drewN] at hz1); (try simp only [heap_drew, World.heap_drewN] at hc1); (try simp only [heap_drew, World.heap_drewN] at hf1); (try have hs1 := Nat.lt_of_succ_le hz1); (try have hs2 := Nat.lt_of_succ_lt hs1); (try have y0 : w.heap.size < w1.heap.size := by omega); (try have y1 : w.heap.size + 1 < w1.heap.size := by omega); (try have y2 : w.heap.size + 2 < w1.heap.size := by omega)))
      go_ret
      refine ⟨⟨_, rfl, .inl ⟨i, HLT.out, HQ.out, HG.out, rfl⟩⟩, ?_⟩
      have := HW.out
      (repeat' (first | assumption | exact Below.refl _ _ | exact Below.size (by assumption) | (refine Below.setCell ?_ ?_ _) | (refine Below.alloc ?_ ?_ _) | (refine Below.drew ?_) | (refine below_drewN ?_ _) | (refine Below.trans ?_ (Below.mono ‹Below _ _ _› ?_)) | omega | (simp; done) | (simp; omega) | (simp at *; omega)))
    | false =>
      have HQ : Hid (C.Nm i ≠ s) := show C.Nm i ≠ s from by simpa using HF.out.symm
      go_wp2_with (first
        | (go_at_call 22
           with_reducible refine KK.out.mono ?_
           rintro e w4 ⟨rfl, hb4⟩
           have HW4 := Lib.hid (below_step HW.out hb4)
           clear hb4))
      go_roundw
      case rel => exact ⟨i', HI', rfl, fun j hj => by
        rcases Nat.lt_or_ge j i with g | g
        · exact HG.out j g
        · have : j = i := by have := HII.out; omega
          rw [this]; exact HQ.out, HW4⟩
      case measure => exact HMS.out
/-- What Find answers. -/
def CfP (C : Scs) (n : Nat) (nm : ByteArray) (e : Ending) : Prop := (¬ catP C n ∧ e = .returned (.tuple #[.int .i64 0, .int .i64 1])) ∨ (catP C n ∧ ∃ v, FndP C n nm v ∧ ((0 ≤ v ∧ e = .returned (.tuple #[.int .i64 v, .int .i64 0])) ∨ (v < 0 ∧ e = .returned (.tuple #[.int .i64 0, .int .i64 9]))))
set_option maxRecDepth 100000 in
set_option maxHeartbeats 4000000 in
theorem c_find (A : Option Addr) (n c : Nat) (C : Scs) (nm : ByteArray) (h2 : n ≤ 2000) (hn : ∀ k, k < n → (C.Nm k).size ≤ maxLen) (w : World) (hC : ScIn w A n C) :
    Calls Tryz.prog 7 #[.slice A n c, .string nm] w fun e w' => CfP C n nm e ∧ Below w.heap.size w w' := by
  have HX : Hid (Blk (w.alloc (.cells #[.string nm] 9)) w.heap.size 9 #[.string nm]) := Blk.new _ _ _
  have hal : Below w.heap.size w (w.alloc (.cells #[.string nm] 9)) := (Below.refl _ w).alloc (Nat.le_refl _) _
  have HAL := Lib.hid hal
  have SV := Lib.hid (tcat A n c C h2 hn _ (hC.below (Nat.le_refl _) hal))
  have HC : Hid (∀ w', Below w.heap.size w w' → ScIn w' A n C) := fun w' hb => hC.below (Nat.le_refl _) hb
  have HN := Lib.hid h2
  clear hC h2 hn hal
  obtain ⟨V, hV⟩ : ∃ V, V = boolOf (catP C n) := ⟨_, rfl⟩
  rw [← hV] at SV
  have HV := Lib.hid hV
  clear hV
  go_enter Tryz.func7, Tryz.ntmps7
  go_upto_region 1 with fail
  generalize w.alloc (.cells #[.string nm] 9) = w1 at HX HAL SV ⊢
  cases V with
  | false =>
    have HP : Hid (¬ catP C n) := not_boolOf HV.out.symm
    go_wp2_with (first
      | (go_at_call 9
         with_reducible refine SV.out.mono ?_
         rintro e w4 ⟨rfl, hb4⟩
         have HW4 := Lib.hid (below_step HAL.out hb4)
         clear hb4))
    go_ret2
    exact ⟨.inl ⟨HP.out, rfl⟩, HW4.out⟩
  | true =>
    have HP : Hid (catP C n) := of_boolOf HV.out.symm
    go_upto_region 4 with (first
      | (go_at_call 9
         with_reducible refine SV.out.mono ?_
         rintro e w4 ⟨rfl, hb4⟩
         have HW4 := Lib.hid (below_step HAL.out hb4)
         have HX4 := Lib.hid (HX.out.call hb4)
         have y4 : w4.cell? ⟨w.heap.size, 0, none⟩ = some (.string nm) := HX4.out.cell 0
         have SI := Lib.hid (c_index A n c C nm w.heap.size w4 HN.out (HC.out _ HW4.out) y4 HX4.out.lt)
         clear hb4)
      | (go_at_call 21
         with_reducible refine SI.out.mono ?_
         rintro e w5 ⟨⟨v, rfl, hv⟩, hb5⟩
         have HW5 := Lib.hid (below_step HW4.out hb5)
         have HV5 := Lib.hid hv
         clear hb5 hv))
    by_cases h0 : 0 ≤ v
    · have T0 : decide (0 ≤ v) = true := decide_eq_true h0
      have H0 := Lib.hid h0
      clear h0
      go_wp2_with fail
      go_ret2
      exact ⟨.inr ⟨HP.out, v, HV5.out, .inl ⟨H0.out, rfl⟩⟩, HW5.out⟩
    · have T0 : decide (0 ≤ v) = false := decide_eq_false h0
      have H0 : Hid (v < 0) := by show v < 0; omega
      clear h0
      go_wp2_with fail
      go_ret2
      exact ⟨.inr ⟨HP.out, v, HV5.out, .inr ⟨H0.out, rfl⟩⟩, HW5.out⟩
end Go.Proofs.YthbdeaglncoanaaGreatDoor

namespace Go.Proofs.YthbdeaglncoanaaGreatDoor
open Go.RowKit
set_option linter.unusedVariables false
set_option linter.unusedSimpArgs false

def lgP (C : Scs) (k : Nat) : Prop := 100 < (C.Nm k).size ∨ 120 < C.AN k ∨ 120 < C.BN k
set_option maxRecDepth 100000 in
set_option maxHeartbeats 4000000 in
theorem l_index (A : Option Addr) (n c : Nat) (C : Scs) (w : World) (h2 : n ≤ 2000) (hn : ∀ k, k < n → (C.Nm k).size ≤ maxLen) (ht : ScIn w A n C) :
    Calls Tryz.prog 21 #[.slice A n c, .func (.func 19) #[] #[]] w fun e w' => (∃ v, e = .returned (.int .i64 v) ∧ ((0 ≤ v ∧ ∃ k, k < n ∧ lgP C k) ∨ (v < 0 ∧ ∀ k, k < n → ¬ lgP C k))) ∧ Below w.heap.size w w' := by
  have HC := Lib.hid ht
  have HN := Lib.hid h2
  have HNM := Lib.hid hn
  clear hn ht h2
  go_enter Tryz.func21, Tryz.ntmps21
  have HW0 := Lib.hid (Below.refl w.heap.size w)
  go_wp2_with fail
  go_loopw [8] (fun u wr => ∃ i : Nat, Hid (i ≤ n) ∧ u = .int .i64 i ∧ Hid (∀ j, j < i → ¬ lgP C j) ∧ Hid (Below w.heap.size w wr)) (fun u _ => n - (RowKit.intOf u).toNat)
  case atStart => exact ⟨0, Nat.zero_le _, rfl, fun j hj => absurd hj (Nat.not_lt_zero _), HW0⟩
  case round =>
    obtain ⟨i, Hi, rfl, HG, HW⟩ := hrel
    by_cases hlt : i < n
    case neg =>
      have T0 : decide ((i : Int) < (n : Int)) = false := by simp <;> omega
      have T0' : decide (i < n) = false := decide_eq_false hlt
      have e : i = n := by have := Hi.out; omega
      subst e
      clear hlt
      go_wp2_with fail
      go_ret
      exact ⟨⟨_, rfl, .inr ⟨by decide, HG.out⟩⟩, HW.out⟩
    have T0 : decide ((i : Int) < (n : Int)) = true := by simp <;> omega
    have T0' : decide (i < n) = true := decide_eq_true hlt
    obtain ⟨i', hi'⟩ : ∃ z, z = i + 1 := ⟨_, rfl⟩
    have x0 : IntKind.i64.wrap ((i : Int) + 1) = (i' : Int) := by have := HN.out; rw [IntKind.wrap_i64]; omega
    have k0 : (0 : Int) ≤ (i : Int) := by omega
    have k1 : (i : Int) < (n : Int) := by omega
    have HMS : Hid (n - (RowKit.intOf (Value.int .i64 (i' : Int))).toNat < n - (RowKit.intOf (Value.int .i64 (i : Int))).toNat) := by show _ < _; simp [RowKit.intOf]; omega
    have HI' : Hid (i' ≤ n) := by show _ ≤ _; omega
    have HII : Hid (i + 1 = i') := hi'.symm
    obtain ⟨bk, off, rfl, hbk, hCc, hta, htb⟩ := (HC.out.below (Nat.le_refl _) HW.out).at hlt
    have c0 := hCc 0 _ rfl
    have c1 := hCc 1 _ rfl
    have c2 := hCc 2 _ rfl
    have c3 := hCc 3 _ rfl
    have c4 := hCc 4 _ rfl
    simp only [Nat.add_zero] at c0
    have HLT := Lib.hid hlt
    obtain ⟨f, hf⟩ : ∃ f, f = boolOf (lgP C i) := ⟨_, rfl⟩
    have KK := Lib.hid (clarge (C.Nm i) (C.Ht i) (C.Pr i) (C.AA i) (C.BA i) (C.AN i) (C.AC i) (C.BN i) (C.BC i) wr (HNM.out i hlt) hta.1 htb.1)
    rw [show boolOf (100 < (C.Nm i).size ∨ 120 < C.AN i ∨ 120 < C.BN i) = boolOf (lgP C i) from rfl, ← hf] at KK
    have HF := Lib.hid hf
    clear hi' hlt hCc hf hta htb
    cases f with
    | true =>
      have HQ : Hid (lgP C i) := of_boolOf HF.out.symm
      go_wp2_with (first
        | (go_at_call 19
           with_reducible refine KK.out.mono ?_
           rintro e w4 ⟨rfl, hb4⟩
           have HW4 := Lib.hid (below_step HW.out hb4)
           clear hb4))
      go_ret
      exact ⟨⟨_, rfl, .inl ⟨by omega, i, HLT.out, HQ.out⟩⟩, HW4.out⟩
    | false =>
      have HQ : Hid (¬ lgP C i) := not_boolOf HF.out.symm
      go_wp2_with (first
        | (go_at_call 19
           with_reducible refine KK.out.mono ?_
           rintro e w4 ⟨rfl, hb4⟩
           have HW4 := Lib.hid (below_step HW.out hb4)
           clear hb4))
      go_roundw
      case rel => exact ⟨i', HI', rfl, fun j hj => by
        rcases Nat.lt_or_ge j i with g | g
        · exact HG.out j g
        · have : j = i := by have := HII.out; omega
          rw [this]; exact HQ.out, HW4⟩
      case measure => exact HMS.out
/-- Many sections, or large ones. -/
def mnP (C : Scs) (n : Nat) : Prop := (8 < n ∧ n ≤ 40) ∨ 80 < n ∨ ∃ k, k < n ∧ lgP C k
set_option maxRecDepth 100000 in
set_option maxHeartbeats 4000000 in
theorem l_contains (A : Option Addr) (n c : Nat) (C : Scs) (w : World) (h2 : n ≤ 2000) (hn : ∀ k, k < n → (C.Nm k).size ≤ maxLen) (ht : ScIn w A n C) :
    Calls Tryz.prog 18 #[.slice A n c, .func (.func 19) #[] #[]] w fun e w' => e = .returned (.bool (boolOf (∃ k, k < n ∧ lgP C k))) ∧ Below w.heap.size w w' := by
  have SI := Lib.hid (l_index A n c C w h2 hn ht)
  obtain ⟨V, hV⟩ : ∃ V, V = boolOf (∃ k, k < n ∧ lgP C k) := ⟨_, rfl⟩
  rw [← hV]
  have HV := Lib.hid hV
  clear h2 hn ht hV
  go_enter Tryz.func18, Tryz.ntmps18
  go_upto_region 1 with fail
  go_wp2_with (first
    | (go_at_call 21
       with_reducible refine SI.out.mono ?_
       rintro e w4 ⟨⟨v, rfl, hv⟩, hb4⟩
       have HW4 := Lib.hid hb4
       have HV4 : Hid (decide (0 ≤ v) = V) := by
         show _ = _
         rw [HV.out]
         rcases hv with ⟨h0, h1⟩ | ⟨h0, h1⟩
         · rw [boolOf_true h1]; exact decide_eq_true h0
         · rw [boolOf_false (fun ⟨k, a, b⟩ => h1 k a b)]; exact decide_eq_false (by omega)
       have t1 := HV4.out
       clear hb4 hv))
  go_ret
  exact ⟨rfl, HW4.out⟩
set_option maxRecDepth 100000 in
set_option maxHeartbeats 4000000 in
theorem l_many (A : Option Addr) (n c : Nat) (C : Scs) (w : World) (h2 : n ≤ 9223372036854775807) (hn : ∀ k, k < n → (C.Nm k).size ≤ maxLen) (ht : ScIn w A n C) :
    Calls Tryz.prog 5 #[.slice A n c] w fun e w' => e = .returned (.bool (boolOf (mnP C n))) ∧ Below w.heap.size w w' := by
  obtain ⟨V, hV⟩ : ∃ V, V = boolOf (mnP C n) := ⟨_, rfl⟩
  rw [← hV]
  have HV := Lib.hid hV
  by_cases g1 : 80 < n
  · have t1 : decide ((8 : Int) < (n : Int)) = true := decide_eq_true (by omega)
    have t1' : decide (8 < n) = true := decide_eq_true (by omega)
    have t2 : decide ((n : Int) ≤ 40) = false := decide_eq_false (by omega)
    have t2' : decide (n ≤ 40) = false := decide_eq_false (by omega)
    have t3 : decide ((80 : Int) < (n : Int)) = true := decide_eq_true (by omega)
    have t3' : decide (80 < n) = true := decide_eq_true g1
    obtain rfl : V = true := by rw [hV]; exact boolOf_true (.inr (.inl g1))
    clear hV HV h2 hn ht g1
    go_enter Tryz.func5, Tryz.ntmps5
    go_wp2_with fail
    go_ret
    exact ⟨rfl, Below.refl _ _⟩
  have t3 : decide ((80 : Int) < (n : Int)) = false := decide_eq_false (by omega)
  have t3' : decide (80 < n) = false := decide_eq_false g1
  by_cases g2 : 8 < n ∧ n ≤ 40
  · have t1 : decide ((8 : Int) < (n : Int)) = true := decide_eq_true (by omega)
    have t1' : decide (8 < n) = true := decide_eq_true (by omega)
    have t2 : decide ((n : Int) ≤ 40) = true := decide_eq_true (by omega)
    have t2' : decide (n ≤ 40) = true := decide_eq_true (by omega)
    obtain rfl : V = true := by rw [hV]; exact boolOf_true (.inl g2)
    clear hV HV h2 hn ht g1 g2
    go_enter Tryz.func5, Tryz.ntmps5
    go_wp2_with fail
    go_ret
    exact ⟨rfl, Below.refl _ _⟩
  have SC := Lib.hid (l_contains A n c C w (by omega) hn ht)
  have hV2 : V = boolOf (∃ k, k < n ∧ lgP C k) := by
    rw [hV]
    by_cases q : ∃ k, k < n ∧ lgP C k
    · rw [boolOf_true q]; exact boolOf_true (.inr (.inr q))
    · rw [boolOf_false q]; exact boolOf_false (fun h => h.elim (fun h => g2 h) (fun h => h.elim g1 q))
  rw [← hV2] at SC
  by_cases g3 : 8 < n
  · have t1 : decide ((8 : Int) < (n : Int)) = true := decide_eq_true (by omega)
    have t1' : decide (8 < n) = true := decide_eq_true g3
    have t2 : decide ((n : Int) ≤ 40) = false := decide_eq_false (by omega)
    have t2' : decide (n ≤ 40) = false := decide_eq_false (by omega)
    clear hV hV2 HV h2 hn ht g1 g2 g3
    go_enter Tryz.func5, Tryz.ntmps5
    go_wp2_with (first
      | (go_at_call 18
         with_reducible refine SC.out.mono ?_
         rintro e w4 ⟨rfl, hb4⟩
         have HW4 := Lib.hid hb4
         clear hb4))
    go_ret
    exact ⟨rfl, HW4.out⟩
  · have t1 : decide ((8 : Int) < (n : Int)) = false := decide_eq_false (by omega)
    have t1' : decide (8 < n) = false := decide_eq_false g3
    clear hV hV2 HV h2 hn ht g1 g2 g3
    go_enter Tryz.func5, Tryz.ntmps5
    go_wp2_with (first
      | (go_at_call 18
         with_reducible refine SC.out.mono ?_
         rintro e w4 ⟨rfl, hb4⟩
         have HW4 := Lib.hid hb4
         clear hb4))
    go_ret
    exact ⟨rfl, HW4.out⟩
end Go.Proofs.YthbdeaglncoanaaGreatDoor

namespace Go.Proofs.YthbdeaglncoanaaGreatDoor
open Go.RowKit
set_option linter.unusedVariables false
set_option linter.unusedSimpArgs false

theorem tab_out {n : Nat} {X Y : Nat → Int} {w : World} {A : Option Addr} (hok : TabOK n X Y) (h : TabIn w A n X Y) : ∃ b off, A = some ⟨b, off, none⟩ ∧ TabAt w b off n X Y := by
  rcases h.2 with h0 | h1
  · have := hok.1; omega
  · exact h1
theorem r_tsame (A A' : Option Addr) (n c c' : Nat) (X Y : Nat → Int) (hok : TabOK n X Y) (w : World) (h : TabIn w A n X Y) (h' : TabIn w A' n X Y) :
    Calls Tryz.prog 33 #[.slice A n c, .slice A' n c'] w fun e w' => e = .returned (.bool true) ∧ Below w.heap.size w w' := by
  obtain ⟨b, off, rfl, ht⟩ := tab_out hok h
  obtain ⟨b', off', rfl, ht'⟩ := tab_out hok h'
  exact rsame_gen b b' off off' n c c' X Y w hok.2.1 ht ht'
set_option maxRecDepth 100000 in
set_option maxHeartbeats 4000000 in
theorem r_same (nm : ByteArray) (h p : Int) (A B A' B' : Option Addr) (na ca nb cb ca' cb' : Nat) (AX AY BX BY : Nat → Int) (w : World) (hoA : TabOK na AX AY) (hoB : TabOK nb BX BY) (hA : TabIn w A na AX AY) (hA' : TabIn w A' na AX AY) (hB : TabIn w B nb BX BY) (hB' : TabIn w B' nb BX BY) :
    Calls Tryz.prog 14 #[.agg #[.string nm, .int .i64 h, .int .i64 p, .slice A na ca, .slice B nb cb], .agg #[.string nm, .int .i64 h, .int .i64 p, .slice A' na ca', .slice B' nb cb']] w fun e w' => e = .returned (.bool true) ∧ Below w.heap.size w w' := by
  have HX : Hid (Blk ((w.alloc (.cells #[.string nm, .int .i64 h, .int .i64 p, .slice A na ca, .slice B nb cb] 40)).alloc (.cells #[.string nm, .int .i64 h, .int .i64 p, .slice A' na ca', .slice B' nb cb'] 40)) w.heap.size 40 #[.string nm, .int .i64 h, .int .i64 p, .slice A na ca, .slice B nb cb]) := (Blk.new _ _ _).alloc _
  have HY : Hid (Blk ((w.alloc (.cells #[.string nm, .int .i64 h, .int .i64 p, .slice A na ca, .slice B nb cb] 40)).alloc (.cells #[.string nm, .int .i64 h, .int .i64 p, .slice A' na ca', .slice B' nb cb'] 40)) (w.heap.size + 1) 40 #[.string nm, .int .i64 h, .int .i64 p, .slice A' na ca', .slice B' nb cb']) := by
    have h := Blk.new (w.alloc (.cells #[.string nm, .int .i64 h, .int .i64 p, .slice A na ca, .slice B nb cb] 40)) 40 #[.string nm, .int .i64 h, .int .i64 p, .slice A' na ca', .slice B' nb cb']
    show Blk _ _ _ _
    simpa using h
  have HB : Hid (Below w.heap.size w ((w.alloc (.cells #[.string nm, .int .i64 h, .int .i64 p, .slice A na ca, .slice B nb cb] 40)).alloc (.cells #[.string nm, .int .i64 h, .int .i64 p, .slice A' na ca', .slice B' nb cb'] 40))) := ((Below.refl _ w).alloc (Nat.le_refl _) _).alloc (by simp) _
  have SA : Hid (∀ w', Below w.heap.size w w' → Calls Tryz.prog 33 #[.slice A na ca, .slice A' na ca'] w' fun e w'' => e = .returned (.bool true) ∧ Below w'.heap.size w' w'') := fun w' hb => r_tsame A A' na ca ca' AX AY hoA w' (hA.below (Nat.le_refl _) hb) (hA'.below (Nat.le_refl _) hb)
  have SB : Hid (∀ w', Below w.heap.size w w' → Calls Tryz.prog 33 #[.slice B nb cb, .slice B' nb cb'] w' fun e w'' => e = .returned (.bool true) ∧ Below w'.heap.size w' w'') := fun w' hb => r_tsame B B' nb cb cb' BX BY hoB w' (hB.below (Nat.le_refl _) hb) (hB'.below (Nat.le_refl _) hb)
  have t1 : (nm.toList == nm.toList) = true := by simp
  have t2 : (h == h) = true := by simp
  have t3 : (p == p) = true := by simp
  clear hA hA' hB hB' hoA hoB
  go_enter Tryz.func14, Tryz.ntmps14
  go_upto_region 1 with fail
  generalize (w.alloc (.cells #[.string nm, .int .i64 h, .int .i64 p, .slice A na ca, .slice B nb cb] 40)).alloc (.cells #[.string nm, .int .i64 h, .int .i64 p, .slice A' na ca', .slice B' nb cb'] 40) = w1 at HX HY HB ⊢
  obtain ⟨x0, x1, x2, x3, x4⟩ := blk5 HX.out
  obtain ⟨y0, y1, y2, y3, y4⟩ := blk5 HY.out
  go_wp2_with (first
    | (go_at_call 33
       with_reducible refine (SA.out _ HB.out).mono ?_
       rintro e w4 ⟨rfl, hb4⟩
       clear x0 x1 x2 x3 x4 y0 y1 y2 y3 y4
       have HX4 := Lib.hid (HX.out.call hb4)
       have HY4 := Lib.hid (HY.out.call hb4)
       have HB4 := Lib.hid (below_step HB.out hb4)
       clear hb4
       obtain ⟨x0, x1, x2, x3, x4⟩ := blk5 HX4.out
       obtain ⟨y0, y1, y2, y3, y4⟩ := blk5 HY4.out)
    | (go_at_call 33
       with_reducible refine (SB.out _ HB4.out).mono ?_
       rintro e w5 ⟨rfl, hb5⟩
       have HB5 := Lib.hid (below_step HB4.out hb5)
       clear hb5))
  go_ret
  exact ⟨rfl, HB5.out⟩
set_option maxRecDepth 100000 in
set_option maxHeartbeats 8000000 in
theorem s_equal (A B : Option Addr) (n c d : Nat) (C D : Scs) (hN : D.Nm = C.Nm) (hH : D.Ht = C.Ht) (hP : D.Pr = C.Pr) (hAN : D.AN = C.AN) (hAX : D.AX = C.AX) (hAY : D.AY = C.AY) (hBN : D.BN = C.BN) (hBX : D.BX = C.BX) (hBY : D.BY = C.BY) (h2 : n ≤ 2000) (hp : ∀ k, k < n → secP C k) (w : World) (hA : ScIn w A n D) (hB : ScIn w B n C) :
    Calls Tryz.prog 13 #[.slice A n c, .slice B n d, .func (.func 14) #[] #[]] w fun e w' => e = .returned (.bool true) ∧ Below w.heap.size w w' := by
  obtain ⟨Nm, Ht, Pr, AA, AN, AC, AX, AY, BA, BN, BC, BX, BY⟩ := D
  simp only at hN hH hP hAN hAX hAY hBN hBX hBY
  subst hN hH hP hAN hAX hAY hBN hBX hBY
  have HA := Lib.hid hA
  have HB := Lib.hid hB
  have H2 := Lib.hid h2
  have HP := Lib.hid hp
  have t1 : ((n : Int) != (n : Int)) = false := by simp
  clear hA hB h2 hp
  go_enter Tryz.func13, Tryz.ntmps13
  go_wp2_with fail
  go_loopw [17] (fun u wr => ∃ i : Nat, Hid (i ≤ n) ∧ u = .int .i64 i ∧ Hid (Below w.heap.size w wr)) (fun u _ => n - (RowKit.intOf u).toNat)
  case atStart => exact ⟨0, Nat.zero_le _, rfl, Below.refl _ _⟩
  case round =>
    obtain ⟨i, Hi, rfl, HW⟩ := hrel
    by_cases hlt : i < n
    case neg =>
      have T0 : decide ((i : Int) < (n : Int)) = false := by simp <;> omega
      have T0' : decide (i < n) = false := decide_eq_false hlt
      clear hlt
      go_wp2_with fail
      go_ret
      exact ⟨rfl, HW.out⟩
    have T0 : decide ((i : Int) < (n : Int)) = true := by simp <;> omega
    have T0' : decide (i < n) = true := decide_eq_true hlt
    obtain ⟨i', hi'⟩ : ∃ z, z = i + 1 := ⟨_, rfl⟩
    have x0 : IntKind.i64.wrap ((i : Int) + 1) = (i' : Int) := by have := H2.out; rw [IntKind.wrap_i64]; omega
    have k0 : (0 : Int) ≤ (i : Int) := by omega
    have k1 : (i : Int) < (n : Int) := by omega
    have HI' : Hid (i' ≤ n) := by show _ ≤ _; omega
    have HMS : Hid (n - (RowKit.intOf (Value.int .i64 (i' : Int))).toNat < n - (RowKit.intOf (Value.int .i64 (i : Int))).toNat) := by show _ < _; simp [RowKit.intOf]; omega
    obtain ⟨b, off, rfl, hb, hC, hT1, hT2⟩ := (HA.out.below (Nat.le_refl _) HW.out).at hlt
    obtain ⟨b2, off2, rfl, hb2, hC2, hT3, hT4⟩ := (HB.out.below (Nat.le_refl _) HW.out).at hlt
    have hsp := HP.out i hlt
    have SS : Hid (∀ w', Below wr.heap.size wr w' → Calls Tryz.prog 14 #[.agg #[.string (C.Nm i), .int .i64 (C.Ht i), .int .i64 (C.Pr i), .slice (AA i) (C.AN i) (AC i), .slice (BA i) (C.BN i) (BC i)], .agg #[.string (C.Nm i), .int .i64 (C.Ht i), .int .i64 (C.Pr i), .slice (C.AA i) (C.AN i) (C.AC i), .slice (C.BA i) (C.BN i) (C.BC i)]] w' fun e w'' => e = .returned (.bool true) ∧ Below w'.heap.size w' w'') := fun w' hw =>
      r_same (C.Nm i) (C.Ht i) (C.Pr i) (AA i) (BA i) (C.AA i) (C.BA i) (C.AN i) (AC i) (C.BN i) (BC i) (C.AC i) (C.BC i) (C.AX i) (C.AY i) (C.BX i) (C.BY i) w' hsp.2.2.2.2.2.1.1 hsp.2.2.2.2.2.2.1 (hT1.below (Nat.le_refl _) hw) (hT3.below (Nat.le_refl _) hw) (hT2.below (Nat.le_refl _) hw) (hT4.below (Nat.le_refl _) hw)
    have c0 := hC 0 _ rfl
    have c1 := hC 1 _ rfl
    have c2 := hC 2 _ rfl
    have c3 := hC 3 _ rfl
    have c4 := hC 4 _ rfl
    simp only [Nat.add_zero] at c0 c1 c2 c3 c4
    have HC2 := Lib.hid (And.intro hb2 hC2)
    clear hi' hlt hC hC2 hsp hT1 hT2 hT3 hT4 hb hb2
    go_upto_region 6 with fail
    have hal : Below wr.heap.size wr (wr.alloc (Obj.cells #[.string (C.Nm i), .int .i64 (C.Ht i), .int .i64 (C.Pr i), .slice (AA i) (C.AN i) (AC i), .slice (BA i) (C.BN i) (BC i)] 40)) := (Below.refl _ _).alloc (Nat.le_refl _) _
    have HX : Hid (Blk (wr.alloc (Obj.cells #[.string (C.Nm i), .int .i64 (C.Ht i), .int .i64 (C.Pr i), .slice (AA i) (C.AN i) (AC i), .slice (BA i) (C.BN i) (BC i)] 40)) wr.heap.size 40 #[.string (C.Nm i), .int .i64 (C.Ht i), .int .i64 (C.Pr i), .slice (AA i) (C.AN i) (AC i), .slice (BA i) (C.BN i) (BC i)]) := Blk.new _ _ _
    have HD : Hid (CellsAt (wr.alloc (Obj.cells #[.string (C.Nm i), .int .i64 (C.Ht i), .int .i64 (C.Pr i), .slice (AA i) (C.AN i) (AC i), .slice (BA i) (C.BN i) (BC i)] 40)) b2 (off2 + i * 5) #[.string (C.Nm i), .int .i64 (C.Ht i), .int .i64 (C.Pr i), .slice (C.AA i) (C.AN i) (C.AC i), .slice (C.BA i) (C.BN i) (C.BC i)].toList) := HC2.out.2.below hal HC2.out.1
    have HW4 := Lib.hid hal
    clear hal HC2 c0 c1 c2 c3 c4
    generalize wr.alloc (Obj.cells #[.string (C.Nm i), .int .i64 (C.Ht i), .int .i64 (C.Pr i), .slice (AA i) (C.AN i) (AC i), .slice (BA i) (C.BN i) (BC i)] 40) = w4 at HX HD HW4 ⊢
    have c0 := HD.out 0 _ rfl
    have c1 := HD.out 1 _ rfl
    have c2 := HD.out 2 _ rfl
    have c3 := HD.out 3 _ rfl
    have c4 := HD.out 4 _ rfl
    simp only [Nat.add_zero] at c0 c1 c2 c3 c4
    go_upto_region 7 with fail
    have hal : Below w4.heap.size w4 (w4.alloc (Obj.cells #[.string (C.Nm i), .int .i64 (C.Ht i), .int .i64 (C.Pr i), .slice (C.AA i) (C.AN i) (C.AC i), .slice (C.BA i) (C.BN i) (C.BC i)] 40)) := (Below.refl _ _).alloc (Nat.le_refl _) _
    have HY : Hid (Blk (w4.alloc (Obj.cells #[.string (C.Nm i), .int .i64 (C.Ht i), .int .i64 (C.Pr i), .slice (C.AA i) (C.AN i) (C.AC i), .slice (C.BA i) (C.BN i) (C.BC i)] 40)) w4.heap.size 40 #[.string (C.Nm i), .int .i64 (C.Ht i), .int .i64 (C.Pr i), .slice (C.AA i) (C.AN i) (C.AC i), .slice (C.BA i) (C.BN i) (C.BC i)]) := Blk.new _ _ _
    have HX5 := Lib.hid (HX.out.call hal)
    have HW5 := Lib.hid (below_step HW4.out hal)
    clear hal c0 c1 c2 c3 c4
    generalize w4.alloc (Obj.cells #[.string (C.Nm i), .int .i64 (C.Ht i), .int .i64 (C.Pr i), .slice (C.AA i) (C.AN i) (C.AC i), .slice (C.BA i) (C.BN i) (C.BC i)] 40) = w5 at HX5 HY HW5 ⊢
    obtain ⟨a0, a1, a2, a3, a4⟩ := blk5 HX5.out
    obtain ⟨d0, d1, d2, d3, d4⟩ := blk5 HY.out
    go_wp2_with (first
      | (go_at_call 14
         with_reducible refine (SS.out _ HW5.out).mono ?_
         rintro e w6 ⟨rfl, hb6⟩
         have HW6 := Lib.hid (below_step HW.out (below_step HW5.out hb6))
         clear hb6))
    go_roundw
    case rel => exact ⟨i', HI', rfl, HW6⟩
    case measure => exact HMS.out
end Go.Proofs.YthbdeaglncoanaaGreatDoor

namespace Go.Proofs.YthbdeaglncoanaaGreatDoor
open Go.RowKit
set_option linter.unusedVariables false
set_option linter.unusedSimpArgs false

/-- The digits, none at nought. -/
def dgs (k : Nat) : List UInt8 := if k = 0 then [] else Lib.decDigits k
theorem dgs_step {k : Nat} (h : k ≠ 0) : dgs k = dgs (k / 10) ++ [UInt8.ofNat (48 + k % 10)] := by
  unfold dgs
  rw [if_neg h]
  by_cases g : k < 10
  · have e : k / 10 = 0 := by omega
    have e2 : k % 10 = k := by omega
    rw [e, if_pos rfl, e2, Lib.decDigits_one g]
    rfl
  · rw [if_neg (by omega)]
    have := congrArg (fun x : ByteArray => x.data.toList) (decB_big g)
    simp only [ByteArray.data_append, Array.toList_append] at this
    rw [dg_eq _ (by omega)] at this
    exact this
theorem itoaN (N : Nat) : Lib.itoa (N : Int) = Lib.decDigits N := by
  rw [itoa_pos' (by omega)]
  rfl
set_option maxRecDepth 100000 in
set_option maxHeartbeats 4000000 in
theorem rdec4 (N : Nat) (h : N < 1000000000000000000) (w : World) : Calls Tryz.prog 31 #[.int .i64 (N : Int)] w fun e w' => e = .returned (.string ⟨(Lib.itoa (N : Int)).toArray⟩) ∧ Below w.heap.size w w' := by
  by_cases h0 : N = 0
  · subst h0
    go_enter Tryz.func31, Tryz.ntmps31
    go_wp2_with fail
    go_ret
    refine ⟨?_, Below.refl _ _⟩
    rw [itoaN, Lib.decDigits_one (by decide)]
    rfl
  have t0 : ((N : Int) == 0) = false := by simp <;> omega
  have t1 : decide ((N : Int) = 0) = false := by simp <;> omega
  have t2 : decide ((N : Int) < 0) = false := by simp <;> omega
  have HN := Lib.hid h
  have H0 := Lib.hid h0
  clear h h0
  go_enter Tryz.func31, Tryz.ntmps31
  go_upto_region 4 with fail
  have HW0 := Lib.hid (Below.refl w.heap.size w)
  go_wp2_with fail
  go_loopw [3, 4] (fun t u wr => ∃ (k : Nat) (q : ByteArray), Hid (k ≤ N) ∧ t = .string q ∧ u = .int .i64 k ∧ Hid (dgs k ++ q.data.toList = dgs N) ∧ Hid (Below w.heap.size w wr)) (fun _ u _ => (RowKit.intOf u).toNat)
  case atStart => exact ⟨N, ⟨#[]⟩, Nat.le_refl _, rfl, rfl, List.append_nil _, HW0⟩
  case round =>
    clear HW0
    obtain ⟨k, q, Hk, rfl, rfl, HQ, HW⟩ := hrel
    by_cases hk : k = 0
    · subst hk
      have HE : Hid (q = ⟨(Lib.itoa (N : Int)).toArray⟩) := by
        show _ = _
        apply bytes_ext
        rw [ByteArray.toList_eq, ByteArray.toList_eq]
        have h1 := HQ.out
        have h2 : dgs N = Lib.decDigits N := if_neg H0.out
        rw [h2] at h1
        show q.data.toList = Lib.itoa (N : Int)
        rw [itoaN, ← h1]
        rfl
      go_wp2_with fail
      go_ret
      refine ⟨?_, HW.out⟩
      rw [← HE.out]
      rfl
    have T0 : ((k : Int) != 0) = true := by simp <;> omega
    have T1 : ((k : Int) == 0) = false := by simp <;> omega
    have T2 : decide ((k : Int) = 0) = false := by simp <;> omega
    obtain ⟨d, hd⟩ : ∃ d, d = k % 10 := ⟨_, rfl⟩
    obtain ⟨k', hk'⟩ : ∃ k', k' = k / 10 := ⟨_, rfl⟩
    have HDK : Hid (d = k % 10 ∧ k' = k / 10) := ⟨hd, hk'⟩
    have HST := Lib.hid (dgs_step hk)
    have HKZ := Lib.hid hk
    clear hk hd hk'
    go_upto_region 10 with fail
    have r1 : (k : Int) % 10 = (d : Int) := by have := HDK.out; omega
    rw [r1]
    obtain ⟨c, hc⟩ : ∃ z, z = 48 + d := ⟨_, rfl⟩
    have r2 : (k : Int) / 10 = (k' : Int) := by have := HDK.out; omega
    have r4 : IntKind.i64.wrap (48 + (d : Int)) = (c : Int) := by have := HDK.out; rw [IntKind.wrap_i64]; omega
    have r5 : IntKind.u8.wrap (c : Int) = (c : Int) := by have := HDK.out; unfold IntKind.wrap; simp [IntKind.bits, IntKind.signed]; omega
    have r6 : IntKind.i64.wrap (k' : Int) = (k' : Int) := by have := HDK.out; have := Hk.out; have := HN.out; rw [IntKind.wrap_i64]; omega
    have hbn : (UInt8.ofNat c).toNat = c := by rw [hc]; exact digit_nat (by have := HDK.out; omega)
    obtain ⟨b, hbb⟩ : ∃ b : ByteArray, b = ⟨#[UInt8.ofNat c]⟩ := ⟨_, rfl⟩
    have hcv : (convert 53 9 (.slice (some ⟨wr.heap.size, 0, none⟩) 1 1)).run Tryz.prog (wr.alloc (.cells #[.int .u8 (c : Int)] 5)) = .ok (.string b) (wr.alloc (.cells #[.int .u8 (c : Int)] 5)) := by
      rw [hbb]
      exact run_convert_bytes_back (P := Tryz.prog) (wr.alloc (.cells #[.int .u8 (c : Int)] 5)) 53 9 5 ⟨wr.heap.size, 0, none⟩ 1 [UInt8.ofNat c] Tryz.underlying53 Tryz.underlying5 Tryz.underlying9 (fun j hj => by
        obtain rfl : j = 0 := by simpa using hj
        simp [Addr.add, hbn])
    have hbs : ((b.size : Nat) : Int) ≤ 8388608 := by rw [hbb]; show ((1 : Nat) : Int) ≤ 8388608; decide
    have hqs : ((q.size : Nat) : Int) ≤ 8388608 := by
      have h1 := congrArg List.length HQ.out
      rw [List.length_append] at h1
      have h2 : dgs N = Lib.decDigits N := if_neg H0.out
      have h3 := decB_size HN.out
      have h4 : (⟨(Lib.decDigits N).toArray⟩ : ByteArray).size = (Lib.decDigits N).length := rfl
      have h5 : q.data.toList.length = q.size := rfl
      rw [h2] at h1
      omega
    have HQN : Hid (dgs k' ++ (b ++ q).data.toList = dgs N) := by
      show _ = _
      rw [← HQ.out, HST.out, hbb, hc, HDK.out.1, HDK.out.2, ByteArray.data_append, Array.toList_append, List.append_assoc]
    have HLE : Hid (k' ≤ N) := by have := HDK.out; have := Hk.out; show k' ≤ N; omega
    have HMS : Hid ((RowKit.intOf (Value.int .i64 (k' : Int))).toNat < (RowKit.intOf (Value.int .i64 (k : Int))).toNat) := by
      have := HDK.out
      show (k' : Int).toNat < (k : Int).toNat
      have h9 := HKZ.out
      omega
    clear r1 hc hbn hbb
    go_wp2_with fail
    go_roundw
    case rel => exact ⟨k', b ++ q, HLE, rfl, rfl, HQN, HW.out.alloc HW.out.size _⟩
    case measure => exact HMS.out
end Go.Proofs.YthbdeaglncoanaaGreatDoor

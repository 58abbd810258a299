/- Valid of package catalogue. -/
import Derived.Test.YtdgfljkhnifemaaGreatDoorSct
import Derived.Maps.Own
import Derived.Maps.OwnOps
import Derived.Maps.Views
namespace Go.Proofs.YtdgfljkhnifemaaGreatDoor
open Go.RowKit Go.Maps
set_option linter.unusedVariables false
set_option linter.unusedSimpArgs false

theorem kstr : Keyed Tryz.prog 9 := string_keyed Tryz.underlying9
theorem zbool (w : World) : (zeroValue 4).run Tryz.prog w = .ok (.bool false) w := by kernel_rfl
/-- The names of the first sections, as a map. -/
def nmD (C : Scs) : Nat → DataW Unit
  | 0 => .map []
  | i + 1 => (nmD C i).put (.string (C.Nm i).data.toList) (.lit (.bool true))
theorem nmD_map (C : Scs) : ∀ i, IsMap (nmD C i)
  | 0 => ⟨_, rfl⟩
  | i + 1 => by
    obtain ⟨es, he⟩ := nmD_map C i
    show IsMap ((nmD C i).put _ _)
    rw [he]
    exact ⟨_, rfl⟩
theorem str_key {a b : ByteArray} (h : (Lit.string a.data.toList) = Lit.string b.data.toList) : a = b := by
  injection h with h
  cases a with | mk x => cases b with | mk y => rw [show x = y from Array.toList_inj.1 h]
theorem nmD_at (C : Scs) (s : ByteArray) : ∀ i, (nmD C i).atKey (.string s.data.toList) (.lit (.bool false)) = .lit (.bool (boolOf (∃ j, j < i ∧ C.Nm j = s)))
  | 0 => by
    rw [boolOf_false (show ¬ ∃ j, j < 0 ∧ C.Nm j = s from fun ⟨j, hj, _⟩ => absurd hj (Nat.not_lt_zero _))]
    rfl
  | i + 1 => by
    show ((nmD C i).put _ _).atKey _ _ = _
    by_cases h : C.Nm i = s
    · rw [boolOf_true (show ∃ j, j < i + 1 ∧ C.Nm j = s from ⟨i, by omega, h⟩), h]
      exact atKey_put_same (nmD_map C i) (by simp [WideAt.IsKeyLit]) _ _
    · rw [atKey_put_other (fun e => h (str_key e).symm), nmD_at C s i]
      have : (∃ j, j < i + 1 ∧ C.Nm j = s) ↔ ∃ j, j < i ∧ C.Nm j = s := by
        constructor
        · rintro ⟨j, hj, e⟩
          rcases Nat.lt_or_ge j i with g | g
          · exact ⟨j, g, e⟩
          · have : j = i := by omega
            rw [this] at e; exact absurd e h
        · rintro ⟨j, hj, e⟩
          exact ⟨j, by omega, e⟩
      rw [propext this]
theorem look_nm {w : World} {b n i : Nat} {C : Scs} (h : w.ownsMap (H := Unit) Tryz.prog 9 (plainElem Tryz.prog 4) b n (nmD C i)) {nm : ByteArray} (hn : nm.size ≤ maxLen) :
    (Instr.lookup 102 (.map (some b)) (.string nm) false).run Tryz.prog w = .ok (.bool (boolOf (∃ j, j < i ∧ C.Nm j = nm))) w := by
  obtain ⟨v, ps, hrun, hv⟩ := h.lookup kstr Tryz.underlying102 (zbool w) (plainElem_bool Tryz.underlying4 false) (WideMaps.keyOf_string_mk Tryz.underlying9 hn)
  rw [nmD_at] at hv
  have hv2 : v = .bool (boolOf (∃ j, j < i ∧ C.Nm j = nm)) := by
    unfold plainElem at hv
    split at hv
    · simp at hv; simp [hv]
    · split at hv <;> simp at hv
    · split at hv <;> simp at hv
    · cases hv
  rw [hrun, hv2]
theorem put_nm {w : World} {b n i : Nat} {C : Scs} (h : w.ownsMap (H := Unit) Tryz.prog 9 (plainElem Tryz.prog 4) b n (nmD C i)) (hn0 : n ≤ 2000) (hn : (C.Nm i).size ≤ maxLen) :
    ∃ w', (Instr.mapUpdate 102 (.map (some b)) (.string (C.Nm i)) (.bool true)).run Tryz.prog w = .ok () w' ∧ w'.ownsMap (H := Unit) Tryz.prog 9 (plainElem Tryz.prog 4) b (n + 1) (nmD C (i + 1)) ∧ w.grownBy w' (some b) := by
  obtain ⟨w', hr, hm, hg⟩ := h.update kstr Tryz.underlying102 (by unfold maxLen; omega) (WideMaps.keyOf_string_mk Tryz.underlying9 hn) (plainElem_bool Tryz.underlying4 true)
  exact ⟨w', hr, hm, hg⟩
set_option maxRecDepth 100000 in
set_option maxHeartbeats 8000000 in
theorem tcat (A : Option Addr) (c cc : Nat) (C : Scs) (h2 : c ≤ 2000) (hn : ∀ k, k < c → (C.Nm k).size ≤ maxLen) (w : World) (hC : ScIn w A c C) :
    Calls Tryz.prog 29 #[.slice A c cc] w fun e w' => e = .returned (.bool (boolOf (catP C c))) ∧ Below w.heap.size w w' := by
  have HC := Lib.hid hC
  have HNM := Lib.hid hn
  have H2 := Lib.hid h2
  have hmm := @run_makeMap Tryz.prog
  obtain ⟨V, hV⟩ : ∃ V, V = boolOf (catP C c) := ⟨_, rfl⟩
  rw [← hV]
  have HV := Lib.hid hV
  by_cases h1 : c ≤ 40
  case neg =>
    have t1 : decide ((40 : Int) < (c : Int)) = true := decide_eq_true (by omega)
    have t1' : decide (40 < c) = true := decide_eq_true (by omega)
    obtain rfl : V = false := by rw [hV]; exact boolOf_false fun h => h1 h.1
    clear hV HV hC hn h2 h1 hmm
    go_enter Tryz.func29, Tryz.ntmps29
    go_wp2_with fail
    go_ret
    exact ⟨rfl, by (repeat' (first | assumption | exact Below.refl _ _ | exact Below.size (by assumption) | (refine Below.setCell ?_ ?_ _) | (refine Below.alloc ?_ ?_ _) | (refine Below.drew ?_) | (refine below_drewN ?_ _) | (refine Below.trans ?_ (Below.mono ‹Below _ _ _› ?_)) | omega | (simp; done) | (simp; omega) | (simp at *; omega)))⟩
  have t1 : decide ((40 : Int) < (c : Int)) = false := decide_eq_false (by omega)
  have t1' : decide (40 < c) = false := decide_eq_false (by omega)
  have H1 := Lib.hid h1
  clear hV hC hn h2 h1
  go_enter Tryz.func29, Tryz.ntmps29
  go_wp2_with fail
  have HM0 : Hid ((w.alloc (.map #[] 0)).ownsMap (H := Unit) Tryz.prog 9 (plainElem Tryz.prog 4) w.heap.size 0 (.map []) ∧ Below w.heap.size w (w.alloc (.map #[] 0))) := ⟨World.ownsMap_made _ _ _ _, by (repeat' (first | assumption | exact Below.refl _ _ | exact Below.size (by assumption) | (refine Below.setCell ?_ ?_ _) | (refine Below.alloc ?_ ?_ _) | (refine Below.drew ?_) | (refine below_drewN ?_ _) | (refine Below.trans ?_ (Below.mono ‹Below _ _ _› ?_)) | omega | (simp; done) | (simp; omega) | (simp at *; omega)))⟩
  go_loopw [12] (fun u wr => ∃ i : Nat, Hid (i ≤ c) ∧ u = .int .i64 i ∧ Hid (∀ j, j < i → scnP C j) ∧ Hid (wr.ownsMap (H := Unit) Tryz.prog 9 (plainElem Tryz.prog 4) w.heap.size i (nmD C i)) ∧ Hid (Below w.heap.size w wr)) (fun u _ => c - (RowKit.intOf u).toNat)
  case atStart => exact ⟨0, Nat.zero_le _, rfl, fun j hj => absurd hj (Nat.not_lt_zero _), HM0.out.1, HM0.out.2⟩
  case round =>
    obtain ⟨i, Hi, rfl, HG, HM, HW⟩ := hrel
    by_cases hlt : i < c
    · have T0 : decide ((i : Int) < (c : Int)) = true := by simp <;> omega
      have T0' : decide (i < c) = true := decide_eq_true hlt
      obtain ⟨i', hi'⟩ : ∃ z, z = i + 1 := ⟨_, rfl⟩
      have x0 : IntKind.i64.wrap ((i : Int) + 1) = (i' : Int) := by have := H2.out; rw [IntKind.wrap_i64]; omega
      have HI' : Hid (i' ≤ c) := by show i' ≤ c; omega
      have HMS : Hid (c - (RowKit.intOf (Value.int .i64 (i' : Int))).toNat < c - (RowKit.intOf (Value.int .i64 (i : Int))).toNat) := by show _ < _; simp [RowKit.intOf]; omega
      have k0 : (0 : Int) ≤ (i : Int) := by omega
      have k1 : (i : Int) < (c : Int) := by omega
      obtain ⟨b, off, rfl, hb, hCc, hta, htb⟩ := (HC.out.below (Nat.le_refl _) HW.out).at hlt
      have c0 := hCc 0 _ rfl
      have c1 := hCc 1 _ rfl
      have c2 := hCc 2 _ rfl
      have c3 := hCc 3 _ rfl
      have c4 := hCc 4 _ rfl
      simp only [Nat.add_zero] at c0
      have HTA := Lib.hid hta
      have HTB := Lib.hid htb
      have hnl := HNM.out i hlt
      have HNL := Lib.hid hnl
      have sv := fun w hA hB => cvalid (C.Nm i) (C.Ht i) (C.Pr i) (C.AA i) (C.BA i) (C.AN i) (C.AC i) (C.BN i) (C.BC i) (C.AX i) (C.AY i) (C.BX i) (C.BY i) w hnl hA hB
      have HVF : Hid (¬ scnP C i → V = false) := fun h => by rw [HV.out]; exact boolOf_false fun g => h (g.2 i hlt)
      have HST : Hid (scnP C i → ∀ j, j < i' → scnP C j) := fun h j hj => by
        rcases Nat.lt_or_ge j i with g | g
        · exact HG.out j g
        · have : j = i := by omega
          rw [this]; exact h
      have hnp : boolOf (SecOK (C.Nm i).data.toList (C.Ht i) (C.Pr i) (C.AN i) (C.AX i) (C.AY i) (C.BN i) (C.BX i) (C.BY i)) = boolOf (secP C i) := rfl
      rw [hnp] at sv
      have hbl := HM.out.lt
      have HII : Hid (i + 1 = i') := hi'.symm
      have H40 : Hid (i ≤ 2000) := by show i ≤ 2000; have := H1.out; omega
      clear hi' hlt hCc hta htb hnp hnl
      by_cases g1 : secP C i
      case neg =>
        obtain rfl : V = false := HVF.out fun h => g1 h.1
        rw [boolOf_false g1] at sv
        have SV := Lib.hid sv
        clear sv g1
        go_wp2_with (first
          | (go_at_call 59
             with_reducible refine (SV.out _ ?_ ?_).mono ?_
             focus (exact HTA.out.below (Nat.le_refl _) (by (repeat' (first | assumption | exact Below.refl _ _ | exact Below.size (by assumption) | (refine Below.setCell ?_ ?_ _) | (refine Below.alloc ?_ ?_ _) | (refine Below.drew ?_) | (refine below_drewN ?_ _) | (refine Below.trans ?_ (Below.mono ‹Below _ _ _› ?_)) | omega | (simp; done) | (simp; omega) | (simp at *; omega)))))
             focus (exact HTB.out.below (Nat.le_refl _) (by (repeat' (first | assumption | exact Below.refl _ _ | exact Below.size (by assumption) | (refine Below.setCell ?_ ?_ _) | (refine Below.alloc ?_ ?_ _) | (refine Below.drew ?_) | (refine below_drewN ?_ _) | (refine Below.trans ?_ (Below.mono ‹Below _ _ _› ?_)) | omega | (simp; done) | (simp; omega) | (simp at *; omega)))))
             rintro e w1 ⟨rfl, hb1⟩
             have HB1 := Lib.hid hb1))
        go_ret
        exact ⟨rfl, by have := HW.out; (repeat' (first | assumption | exact Below.refl _ _ | exact Below.size (by assumption) | (refine Below.setCell ?_ ?_ _) | (refine Below.alloc ?_ ?_ _) | (refine Below.drew ?_) | (refine below_drewN ?_ _) | (refine Below.trans ?_ (Below.mono ‹Below _ _ _› ?_)) | omega | (simp; done) | (simp; omega) | (simp at *; omega)))⟩
      rw [boolOf_true g1] at sv
      have SV := Lib.hid sv
      have HE : Hid (∀ w1 : World, Below (wr.alloc (.cells #[.string (C.Nm i), .int .i64 (C.Ht i), .int .i64 (C.Pr i), .slice (C.AA i) (C.AN i) (C.AC i), .slice (C.BA i) (C.BN i) (C.BC i)] 65)).heap.size (wr.alloc (.cells #[.string (C.Nm i), .int .i64 (C.Ht i), .int .i64 (C.Pr i), .slice (C.AA i) (C.AN i) (C.AC i), .slice (C.BA i) (C.BN i) (C.BC i)] 65)) w1 → (Instr.lookup 102 (.map (some w.heap.size)) (.string (C.Nm i)) false).run Tryz.prog w1 = .ok (.bool (boolOf (∃ j, j < i ∧ C.Nm j = C.Nm i))) w1 ∧
          ∃ w2, (Instr.mapUpdate 102 (.map (some w.heap.size)) (.string (C.Nm i)) (.bool true)).run Tryz.prog w1 = .ok () w2 ∧ w2.ownsMap (H := Unit) Tryz.prog 9 (plainElem Tryz.prog 4) w.heap.size i' (nmD C i') ∧ Below w.heap.size w w2) := fun w1 hb => by
        have hk := (HM.out.alloc (.cells #[.string (C.Nm i), .int .i64 (C.Ht i), .int .i64 (C.Pr i), .slice (C.AA i) (C.AN i) (C.AC i), .slice (C.BA i) (C.BN i) (C.BC i)] 65)).kept (w' := w1) (row := none) (only_of_below hb none) (by simp)
        obtain ⟨w2, hr, hm, hg⟩ := put_nm hk H40.out HNL.out
        refine ⟨look_nm hk HNL.out, w2, hr, by rw [← HII.out]; exact hm, ?_⟩
        have hw1 : Below w.heap.size w w1 := (HW.out.alloc (by omega) _).trans (hb.mono (by simp; omega))
        exact hw1.grown hg (by have := hw1.size; omega) (fun k hk => by injection hk with hk; omega)
      by_cases g2 : ∃ j, j < i ∧ C.Nm j = C.Nm i
      case pos =>
        obtain rfl : V = false := HVF.out fun h => by obtain ⟨j, hj, e⟩ := g2; exact h.2 j hj e
        rw [boolOf_true g2] at HE
        clear sv g1 g2
        go_wp2_with (first
          | (go_at_call 59
             with_reducible refine (SV.out _ ?_ ?_).mono ?_
             focus (exact HTA.out.below (Nat.le_refl _) (by (repeat' (first | assumption | exact Below.refl _ _ | exact Below.size (by assumption) | (refine Below.setCell ?_ ?_ _) | (refine Below.alloc ?_ ?_ _) | (refine Below.drew ?_) | (refine below_drewN ?_ _) | (refine Below.trans ?_ (Below.mono ‹Below _ _ _› ?_)) | omega | (simp; done) | (simp; omega) | (simp at *; omega)))))
             focus (exact HTB.out.below (Nat.le_refl _) (by (repeat' (first | assumption | exact Below.refl _ _ | exact Below.size (by assumption) | (refine Below.setCell ?_ ?_ _) | (refine Below.alloc ?_ ?_ _) | (refine Below.drew ?_) | (refine below_drewN ?_ _) | (refine Below.trans ?_ (Below.mono ‹Below _ _ _› ?_)) | omega | (simp; done) | (simp; omega) | (simp at *; omega)))))
             rintro e w1 ⟨rfl, hb1⟩
             have q0 : w1.cell? ⟨wr.heap.size, 0, none⟩ = some (.string (C.Nm i)) := ((Blk.new wr 65 #[.string (C.Nm i), .int .i64 (C.Ht i), .int .i64 (C.Pr i), .slice (C.AA i) (C.AN i) (C.AC i), .slice (C.BA i) (C.BN i) (C.BC i)]).call hb1).cell 0
             have HB1 : Hid (Below w.heap.size w w1) := (HW.out.alloc (by omega) _).trans (hb1.mono (by simp; omega))
             obtain ⟨hlk, -⟩ := HE.out w1 hb1
             clear hb1))
        go_ret
        exact ⟨rfl, HB1.out⟩
      rw [boolOf_false g2] at HE
      have HGD := Lib.hid (HST.out ⟨g1, fun j hj e => g2 ⟨j, hj, e⟩⟩)
      clear sv g1 g2
      go_wp2_with (first
        | (go_at_call 59
           with_reducible refine (SV.out _ ?_ ?_).mono ?_
           focus (exact HTA.out.below (Nat.le_refl _) (by (repeat' (first | assumption | exact Below.refl _ _ | exact Below.size (by assumption) | (refine Below.setCell ?_ ?_ _) | (refine Below.alloc ?_ ?_ _) | (refine Below.drew ?_) | (refine below_drewN ?_ _) | (refine Below.trans ?_ (Below.mono ‹Below _ _ _› ?_)) | omega | (simp; done) | (simp; omega) | (simp at *; omega)))))
           focus (exact HTB.out.below (Nat.le_refl _) (by (repeat' (first | assumption | exact Below.refl _ _ | exact Below.size (by assumption) | (refine Below.setCell ?_ ?_ _) | (refine Below.alloc ?_ ?_ _) | (refine Below.drew ?_) | (refine below_drewN ?_ _) | (refine Below.trans ?_ (Below.mono ‹Below _ _ _› ?_)) | omega | (simp; done) | (simp; omega) | (simp at *; omega)))))
           rintro e w1 ⟨rfl, hb1⟩
           have q0 : w1.cell? ⟨wr.heap.size, 0, none⟩ = some (.string (C.Nm i)) := ((Blk.new wr 65 #[.string (C.Nm i), .int .i64 (C.Ht i), .int .i64 (C.Pr i), .slice (C.AA i) (C.AN i) (C.AC i), .slice (C.BA i) (C.BN i) (C.BC i)]).call hb1).cell 0
           obtain ⟨hlk, w2, hup, hm2, hb2⟩ := HE.out w1 hb1
           have HM2 := Lib.hid hm2
           have HB2 := Lib.hid hb2
           clear hb1 hm2 hb2))
      go_roundw
      case rel => exact ⟨i', HI', rfl, HGD, HM2, HB2⟩
      case measure => exact HMS.out
    · have hin : i = c := by have := Hi.out; omega
      have T0 : decide ((i : Int) < (c : Int)) = false := by simp <;> omega
      have T0' : decide (i < c) = false := decide_eq_false hlt
      obtain rfl : V = true := by rw [HV.out]; exact boolOf_true ⟨H1.out, fun j hj => HG.out j (by omega)⟩
      clear hlt hin
      go_wp2_with fail
      go_ret
      exact ⟨rfl, HW.out⟩
end Go.Proofs.YtdgfljkhnifemaaGreatDoor

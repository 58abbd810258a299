/- The reference's line of a link. -/
import Derived.Test.YtdgfljkhnifemaaGreatDoorRcs
import Derived.Test.YtdgfljkhnifemaaGreatDoorMgT
namespace Go.Proofs.YtdgfljkhnifemaaGreatDoor
open Go.RowKit
set_option linter.unusedVariables false
set_option linter.unusedSimpArgs false

theorem cat2 (a b cat : ByteArray) (h : cat.data.toList = 32 :: b.data.toList) : a ++ cat = bsx (jn [a, b]) := by
  apply bytes_ext
  rw [ByteArray.toList_eq, ByteArray.toList_eq]
  show (a ++ cat).data.toList = jn [a, b]
  have e : jn [a, b] = a.data.toList ++ 32 :: b.data.toList := by
    have h1 := jn_snoc (R := [a]) (by simp) b
    rw [jn_one] at h1
    simpa using h1
  rw [e]
  simp [ByteArray.data_append, h]
theorem jn_more (L : List ByteArray) (h : L ≠ []) (a b : ByteArray) : jn (L ++ [a, b]) = jn L ++ 32 :: (a.data.toList ++ 32 :: b.data.toList) := by
  have h1 := jn_snoc h a
  have h2 := jn_snoc (R := L ++ [a]) (by simp) b
  rw [h1] at h2
  simpa using h2
/-- A line and a word and a number behind it. -/
theorem cat_more (L : List ByteArray) (h : L ≠ []) (l wd cat x : ByteArray) (hl : l = bsx (jn L)) (hc : cat.data.toList = 32 :: (wd.data.toList ++ [32])) : (l ++ cat) ++ x = bsx (jn (L ++ [wd, x])) := by
  apply bytes_ext
  rw [ByteArray.toList_eq, ByteArray.toList_eq]
  show ((l ++ cat) ++ x).data.toList = jn (L ++ [wd, x])
  rw [jn_more L h, hl]
  simp [ByteArray.data_append, hc, bsx]
theorem bsx_one (a : ByteArray) : a = bsx (jn [a]) := by
  apply bytes_ext
  rw [ByteArray.toList_eq, ByteArray.toList_eq]
  show a.data.toList = jn [a]
  rw [jn_one]
/-- What the line of a link is. -/
def RlP (nm : ByteArray) (kd ln up dn : Int) (sc : ByteArray) (C : Scs) (c : Nat) (x : ByteArray) (f : Bool) : Prop :=
  (kd ≠ 1 ∧ x = bsx (jn [nm, kwd kd]) ∧ f = true) ∨ (kd = 1 ∧ fnd C.Nm c sc = -1 ∧ x = ByteArray.empty ∧ f = false) ∨
  (kd = 1 ∧ ∃ s : Nat, s < c ∧ fnd C.Nm c sc = (s : Int) ∧ x = bsx (jn [nm, wLen, numB ln, wFal, numB (up - dn), wHei, numB (C.Ht s)]) ∧ f = true)
set_option maxRecDepth 100000 in
set_option maxHeartbeats 8000000 in
theorem rlink55 (nm fr tn : ByteArray) (kd ln up dn : Int) (sc : ByteArray) (wd ht : Int) (LA : Option Addr) (ln0 lc : Nat) (CA : Option Addr) (c cc : Nat) (C : Scs) (hk : kd = 1 ∨ kd = 2 ∨ kd = 3 ∨ kd = 4) (hnm : nm.size ≤ 60) (hb : kd = 1 → (-4194304 ≤ up ∧ up ≤ 4194304) ∧ (-4194304 ≤ dn ∧ dn ≤ 4194304) ∧ (1 ≤ ln ∧ ln ≤ 16777216)) (hh : ∀ s, s < c → 1 ≤ C.Ht s ∧ C.Ht s ≤ 32768) (h2 : c ≤ 2000) (w : World) (hC : ScIn w CA c C) :
    Calls Tryz.prog 40 #[.agg #[.string nm, .string fr, .string tn, .int .i64 kd, .int .i64 ln, .int .i64 up, .int .i64 dn, .string sc, .int .i64 wd, .int .i64 ht, .slice LA ln0 lc], .slice CA c cc] w fun e w' => ∃ x f, e = .returned (.tuple #[.string x, .bool f]) ∧ RlP nm kd ln up dn sc C c x f ∧ Below w.heap.size w w' := by
  have SF := Lib.hid fun s w hC => rfsec CA c cc C s w h2 hC
  have HB := Lib.hid hb
  have HP : Hid (kd ≠ 1 → RlP nm kd ln up dn sc C c (bsx (jn [nm, kwd kd])) true) := fun h => .inl ⟨h, rfl, rfl⟩
  by_cases g2 : kd = 2
  case pos =>
    have t2 : (kd == 2) = true := by simpa using g2
    have HR : Hid (nm ++ ⟨#[32, 119, 101, 105, 114]⟩ = bsx (jn [nm, kwd kd])) := by show _ = _; rw [g2]; exact cat2 _ _ _ rfl
    have HR2 := Lib.hid (HP.out (by omega))
    obtain ⟨rl, hrl⟩ : ∃ z, z = bsx (jn [nm, kwd kd]) := ⟨_, rfl⟩
    rw [← hrl] at HR HR2
    have lm0 : ¬ 9223372036854775807 < nm.size + 5 := by omega
    have vn : ((nm.size : Nat) : Int) ≤ 8388608 := by omega
    clear hrl g2  hnm hC hb SF HB
    go_enter Tryz.func40, Tryz.ntmps40
    go_wp2_with fail
    go_ret2
    rw [HR.out]
    exact ⟨_, _, rfl, HR2.out, by (repeat' (first | assumption | exact Below.refl _ _ | exact Below.size (by assumption) | (refine Below.setCell ?_ ?_ _) | (refine Below.alloc ?_ ?_ _) | (refine Below.drew ?_) | (refine below_drewN ?_ _) | (refine Below.trans ?_ (Below.mono ‹Below _ _ _› ?_)) | omega | (simp; done) | (simp; omega) | (simp at *; omega)))⟩
  have t2 : (kd == 2) = false := by simpa using g2
  by_cases g3 : kd = 3
  case pos =>
    have t3 : (kd == 3) = true := by simpa using g3
    have HR : Hid (nm ++ ⟨#[32, 103, 97, 116, 101]⟩ = bsx (jn [nm, kwd kd])) := by show _ = _; rw [g3]; exact cat2 _ _ _ rfl
    have HR2 := Lib.hid (HP.out (by omega))
    obtain ⟨rl, hrl⟩ : ∃ z, z = bsx (jn [nm, kwd kd]) := ⟨_, rfl⟩
    rw [← hrl] at HR HR2
    have lm0 : ¬ 9223372036854775807 < nm.size + 5 := by omega
    have vn : ((nm.size : Nat) : Int) ≤ 8388608 := by omega
    clear hrl g3 g2 hnm hC hb SF HB
    go_enter Tryz.func40, Tryz.ntmps40
    go_wp2_with fail
    go_ret2
    rw [HR.out]
    exact ⟨_, _, rfl, HR2.out, by (repeat' (first | assumption | exact Below.refl _ _ | exact Below.size (by assumption) | (refine Below.setCell ?_ ?_ _) | (refine Below.alloc ?_ ?_ _) | (refine Below.drew ?_) | (refine below_drewN ?_ _) | (refine Below.trans ?_ (Below.mono ‹Below _ _ _› ?_)) | omega | (simp; done) | (simp; omega) | (simp at *; omega)))⟩
  have t3 : (kd == 3) = false := by simpa using g3
  by_cases g4 : kd = 4
  case pos =>
    have t4 : (kd == 4) = true := by simpa using g4
    have HR : Hid (nm ++ ⟨#[32, 112, 117, 109, 112]⟩ = bsx (jn [nm, kwd kd])) := by show _ = _; rw [g4]; exact cat2 _ _ _ rfl
    have HR2 := Lib.hid (HP.out (by omega))
    obtain ⟨rl, hrl⟩ : ∃ z, z = bsx (jn [nm, kwd kd]) := ⟨_, rfl⟩
    rw [← hrl] at HR HR2
    have lm0 : ¬ 9223372036854775807 < nm.size + 5 := by omega
    have vn : ((nm.size : Nat) : Int) ≤ 8388608 := by omega
    clear hrl g4 g2 g3 hnm hC hb SF HB
    go_enter Tryz.func40, Tryz.ntmps40
    go_wp2_with fail
    go_ret2
    rw [HR.out]
    exact ⟨_, _, rfl, HR2.out, by (repeat' (first | assumption | exact Below.refl _ _ | exact Below.size (by assumption) | (refine Below.setCell ?_ ?_ _) | (refine Below.alloc ?_ ?_ _) | (refine Below.drew ?_) | (refine below_drewN ?_ _) | (refine Below.trans ?_ (Below.mono ‹Below _ _ _› ?_)) | omega | (simp; done) | (simp; omega) | (simp at *; omega)))⟩
  have t4 : (kd == 4) = false := by simpa using g4
  have g1 : kd = 1 := by omega
  subst g1
  clear hk g2 g3 g4 HP
  have HC := Lib.hid hC
  have HHH := Lib.hid hh
  have HBD := Lib.hid (HB.out rfl)
  have hal : Below w.heap.size w (w.alloc (Obj.cells #[.string nm, .string fr, .string tn, .int .i64 1, .int .i64 ln, .int .i64 up, .int .i64 dn, .string sc, .int .i64 wd, .int .i64 ht, .slice LA ln0 lc] 48)) := (Below.refl _ w).alloc (Nat.le_refl _) _
  have HG := Lib.hid (Blk.new w 48 #[.string nm, .string fr, .string tn, .int .i64 1, .int .i64 ln, .int .i64 up, .int .i64 dn, .string sc, .int .i64 wd, .int .i64 ht, .slice LA ln0 lc])
  have HW1 := Lib.hid hal
  by_cases g7 : fnd C.Nm c sc = -1
  case pos =>
    have HR : Hid (RlP nm 1 ln up dn sc C c ByteArray.empty false) := .inr (.inl ⟨rfl, g7, rfl, rfl⟩)
    have S1 := Lib.hid fun w hC => SF.out sc w hC
    rw [g7] at S1
    clear g7 hal hnm hb hC hh h2 HB SF t2 t3 t4
    go_enter Tryz.func40, Tryz.ntmps40
    go_wp2_with (first
      | (go_at_call 68
         with_reducible refine (S1.out _ ?_).mono ?_
         focus (exact HC.out.below (Nat.le_refl _) HW1.out)
         rintro e w2 ⟨rfl, hb2⟩
         have HW2 := Lib.hid (below_step HW1.out hb2)
         clear hb2))
    go_ret2
    exact ⟨_, _, rfl, HR.out, HW2.out⟩
  obtain ⟨s, hs, hsv⟩ : ∃ s : Nat, s < c ∧ fnd C.Nm c sc = (s : Int) := by
    rcases fnd_bd C.Nm c sc with h | ⟨s, h1, h2, _⟩
    · exact absurd h g7
    · exact ⟨s, h1, h2⟩
  have S1 := Lib.hid fun w hC => SF.out sc w hC
  rw [hsv] at S1
  obtain ⟨bs, os, hCA, hbs, hCc, _⟩ := hC.at hs
  have hht := hCc 1 _ rfl
  have HHT : Hid (∀ w', Below w.heap.size w w' → w'.cell? ⟨bs, os + s * 5 + 1, none⟩ = some (.int .i64 (C.Ht s))) := fun w' hb => (hb.cell (p := ⟨bs, os + s * 5 + 1, none⟩) hbs).trans hht
  subst hCA
  have hd3 := hh s hs
  have hbd := HBD.out
  have L1 := Lib.hid fun w => rnum55 ln (by omega) (by omega) w
  have L2 := Lib.hid fun w => rnum55 (up - dn) (by omega) (by omega) w
  have L3 := Lib.hid fun w => rnum55 (C.Ht s) (by omega) (by omega) w
  have h1 : (⟨(Lib.itoa ln).toArray⟩ : ByteArray).size ≤ 600 := Itm.size (x := .n ln) ⟨by omega, by omega⟩
  have h2' : (⟨(Lib.itoa (up - dn)).toArray⟩ : ByteArray).size ≤ 600 := Itm.size (x := .n (up - dn)) ⟨by omega, by omega⟩
  have h3 : (⟨(Lib.itoa (C.Ht s)).toArray⟩ : ByteArray).size ≤ 600 := Itm.size (x := .n (C.Ht s)) ⟨by omega, by omega⟩
  obtain ⟨d, hd⟩ : ∃ z, z = up - dn := ⟨_, rfl⟩
  have x7 : IntKind.i64.wrap (up - dn) = d := by rw [← hd, IntKind.wrap_i64]; omega
  have EQ : Hid ((((((nm ++ ⟨#[32, 108, 101, 110, 103, 116, 104, 32]⟩) ++ ⟨(Lib.itoa ln).toArray⟩) ++ ⟨#[32, 102, 97, 108, 108, 32]⟩) ++ ⟨(Lib.itoa (up - dn)).toArray⟩) ++ ⟨#[32, 104, 101, 105, 103, 104, 116, 32]⟩) ++ ⟨(Lib.itoa (C.Ht s)).toArray⟩ = bsx (jn [nm, wLen, numB ln, wFal, numB (up - dn), wHei, numB (C.Ht s)])) :=
    cat_more [nm, wLen, numB ln, wFal, numB (up - dn)] (by simp) _ wHei _ _ (cat_more [nm, wLen, numB ln] (by simp) _ wFal _ _ (cat_more [nm] (by simp) _ wLen _ _ (bsx_one nm) rfl) rfl) rfl
  have HR : Hid (∀ x, x = bsx (jn [nm, wLen, numB ln, wFal, numB (up - dn), wHei, numB (C.Ht s)]) → RlP nm 1 ln up dn sc C c x true) := fun x h => .inr (.inr ⟨rfl, s, hs, hsv, h, rfl⟩)
  generalize bsx (jn [nm, wLen, numB ln, wFal, numB (up - dn), wHei, numB (C.Ht s)]) = rl at EQ HR
  rw [← hd] at L2 h2' EQ
  generalize (⟨(Lib.itoa ln).toArray⟩ : ByteArray) = x1 at L1 h1 EQ
  generalize (⟨(Lib.itoa d).toArray⟩ : ByteArray) = x2 at L2 h2' EQ
  generalize (⟨(Lib.itoa (C.Ht s)).toArray⟩ : ByteArray) = x3 at L3 h3 EQ
  have vn : (((nm).size : Nat) : Int) ≤ 8388608 := by omega
  have lm0 : ¬ 9223372036854775807 < nm.size + 8 := by omega
  have sz0 : ((nm ++ ⟨#[32, 108, 101, 110, 103, 116, 104, 32]⟩) : ByteArray).size = nm.size + 8 := by rw [ByteArray.size_append]; rfl
  have vp0 : ((((nm ++ ⟨#[32, 108, 101, 110, 103, 116, 104, 32]⟩) : ByteArray).size : Nat) : Int) ≤ 8388608 := by omega
  have lm1 : ¬ 9223372036854775807 < nm.size + 8 + x1.size := by omega
  have sz1 : (((nm ++ ⟨#[32, 108, 101, 110, 103, 116, 104, 32]⟩) ++ x1) : ByteArray).size = nm.size + 8 + x1.size := by rw [ByteArray.size_append, sz0]
  have vp1 : (((((nm ++ ⟨#[32, 108, 101, 110, 103, 116, 104, 32]⟩) ++ x1) : ByteArray).size : Nat) : Int) ≤ 8388608 := by omega
  have vx1 : ((x1.size : Nat) : Int) ≤ 8388608 := by omega
  have lm2 : ¬ 9223372036854775807 < nm.size + 8 + x1.size + 6 := by omega
  have sz2 : ((((nm ++ ⟨#[32, 108, 101, 110, 103, 116, 104, 32]⟩) ++ x1) ++ ⟨#[32, 102, 97, 108, 108, 32]⟩) : ByteArray).size = nm.size + 8 + x1.size + 6 := by rw [ByteArray.size_append, sz1]; rfl
  have vp2 : ((((((nm ++ ⟨#[32, 108, 101, 110, 103, 116, 104, 32]⟩) ++ x1) ++ ⟨#[32, 102, 97, 108, 108, 32]⟩) : ByteArray).size : Nat) : Int) ≤ 8388608 := by omega
  have lm3 : ¬ 9223372036854775807 < nm.size + 8 + x1.size + 6 + x2.size := by omega
  have sz3 : (((((nm ++ ⟨#[32, 108, 101, 110, 103, 116, 104, 32]⟩) ++ x1) ++ ⟨#[32, 102, 97, 108, 108, 32]⟩) ++ x2) : ByteArray).size = nm.size + 8 + x1.size + 6 + x2.size := by rw [ByteArray.size_append, sz2]
  have vp3 : (((((((nm ++ ⟨#[32, 108, 101, 110, 103, 116, 104, 32]⟩) ++ x1) ++ ⟨#[32, 102, 97, 108, 108, 32]⟩) ++ x2) : ByteArray).size : Nat) : Int) ≤ 8388608 := by omega
  have vx3 : ((x2.size : Nat) : Int) ≤ 8388608 := by omega
  have lm4 : ¬ 9223372036854775807 < nm.size + 8 + x1.size + 6 + x2.size + 8 := by omega
  have sz4 : ((((((nm ++ ⟨#[32, 108, 101, 110, 103, 116, 104, 32]⟩) ++ x1) ++ ⟨#[32, 102, 97, 108, 108, 32]⟩) ++ x2) ++ ⟨#[32, 104, 101, 105, 103, 104, 116, 32]⟩) : ByteArray).size = nm.size + 8 + x1.size + 6 + x2.size + 8 := by rw [ByteArray.size_append, sz3]; rfl
  have vp4 : ((((((((nm ++ ⟨#[32, 108, 101, 110, 103, 116, 104, 32]⟩) ++ x1) ++ ⟨#[32, 102, 97, 108, 108, 32]⟩) ++ x2) ++ ⟨#[32, 104, 101, 105, 103, 104, 116, 32]⟩) : ByteArray).size : Nat) : Int) ≤ 8388608 := by omega
  have lm5 : ¬ 9223372036854775807 < nm.size + 8 + x1.size + 6 + x2.size + 8 + x3.size := by omega
  have vx5 : ((x3.size : Nat) : Int) ≤ 8388608 := by omega
  clear sz0 sz1 sz2 sz3 sz4
  have k8 : (0 : Int) ≤ (s : Int) := by omega
  have k9 : (s : Int) < (c : Int) := by omega
  have k9' : s < c := hs
  have T8 : decide ((s : Int) < 0) = false := decide_eq_false (by omega)
  clear hal hnm hb hC hh h2 HB SF g7 hs hsv hCc hht hbs hd3 hbd h1 h2' h3 hd
  go_enter Tryz.func40, Tryz.ntmps40
  go_upto_region 11 with (first
    | (go_at_call 68
       with_reducible refine (S1.out _ ?_).mono ?_
       focus (exact HC.out.below (Nat.le_refl _) HW1.out)
       rintro e w2 ⟨rfl, hb2⟩
       have HW2 := Lib.hid (below_step HW1.out hb2)
       have HG2 := Lib.hid (HG.out.call hb2)
       clear hb2))
  generalize w.heap.size = G at HG2 ⊢
  have HS : Hid (∀ w', Below w2.heap.size w2 w' → w'.cell? ⟨G, 0, none⟩ = some (.string nm) ∧ w'.cell? ⟨G, 4, none⟩ = some (.int .i64 ln) ∧ w'.cell? ⟨G, 5, none⟩ = some (.int .i64 up) ∧ w'.cell? ⟨G, 6, none⟩ = some (.int .i64 dn) ∧ w'.cell? ⟨bs, os + s * 5 + 1, none⟩ = some (.int .i64 (C.Ht s))) := fun w' hb => ⟨(HG2.out.call hb).cell 0, (HG2.out.call hb).cell 4, (HG2.out.call hb).cell 5, (HG2.out.call hb).cell 6, HHT.out w' (below_step HW2.out hb)⟩
  have hs0 := HS.out w2 (Below.refl _ _)
  clear HG HW1 HHT HHH HBD S1
  go_region_held3 (fun w' => w'.cell? ⟨G, 0, none⟩ = some (.string nm) ∧ w'.cell? ⟨G, 4, none⟩ = some (.int .i64 ln) ∧ w'.cell? ⟨G, 5, none⟩ = some (.int .i64 up) ∧ w'.cell? ⟨G, 6, none⟩ = some (.int .i64 dn) ∧ w'.cell? ⟨bs, os + s * 5 + 1, none⟩ = some (.int .i64 (C.Ht s))) (first
    | exact hs0
    | exact HS.out _ (by (repeat' (first | assumption | exact Below.refl _ _ | exact Below.size (by assumption) | (refine Below.setCell ?_ ?_ _) | (refine Below.alloc ?_ ?_ _) | (refine Below.drew ?_) | (refine below_drewN ?_ _) | (refine Below.trans ?_ (Below.mono ‹Below _ _ _› ?_)) | omega | (simp; done) | (simp; omega) | (simp at *; omega))))) (first
    | (go_at_call 39
       with_reducible refine (L1.out _).mono ?_
       rintro e w6 ⟨rfl, hb6⟩
       have hq6 : Below w2.heap.size w2 w6 := Below.trans (by (repeat' (first | assumption | exact Below.refl _ _ | exact Below.size (by assumption) | (refine Below.setCell ?_ ?_ _) | (refine Below.alloc ?_ ?_ _) | (refine Below.drew ?_) | (refine below_drewN ?_ _) | (refine Below.trans ?_ (Below.mono ‹Below _ _ _› ?_)) | omega | (simp; done) | (simp; omega) | (simp at *; omega)))) (hb6.mono (by simp <;> omega))
       clear hb6)
    | (go_at_call 39
       with_reducible refine (L2.out _).mono ?_
       rintro e w7 ⟨rfl, hb7⟩
       have hq7 : Below w2.heap.size w2 w7 := Below.trans (by (repeat' (first | assumption | exact Below.refl _ _ | exact Below.size (by assumption) | (refine Below.setCell ?_ ?_ _) | (refine Below.alloc ?_ ?_ _) | (refine Below.drew ?_) | (refine below_drewN ?_ _) | (refine Below.trans ?_ (Below.mono ‹Below _ _ _› ?_)) | omega | (simp; done) | (simp; omega) | (simp at *; omega)))) (hb7.mono (Nat.le_trans hq6.size (by simp <;> omega)))
       clear hb7)
    | (go_at_call 39
       with_reducible refine (L3.out _).mono ?_
       rintro e w8 ⟨rfl, hb8⟩
       have hq8 : Below w2.heap.size w2 w8 := Below.trans (by (repeat' (first | assumption | exact Below.refl _ _ | exact Below.size (by assumption) | (refine Below.setCell ?_ ?_ _) | (refine Below.alloc ?_ ?_ _) | (refine Below.drew ?_) | (refine below_drewN ?_ _) | (refine Below.trans ?_ (Below.mono ‹Below _ _ _› ?_)) | omega | (simp; done) | (simp; omega) | (simp at *; omega)))) (hb8.mono (Nat.le_trans hq7.size (by simp <;> omega)))
       clear hb8))
  all_goals (have HW8 := Lib.hid (below_step HW2.out hq8); go_wp2_with fail; go_ret2; exact ⟨_, _, rfl, HR.out _ EQ.out, by have h9 := HW8.out; first | exact h9 | exact below_drewN h9 _⟩)
end Go.Proofs.YtdgfljkhnifemaaGreatDoor

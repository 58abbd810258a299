/- permit.line: a line is read. -/
import Derived.Test.YtigocjhmgmhocaaGreatDoorPmN
namespace Go.Proofs.YtigocjhmgmhocaaGreatDoor
open Go.RowKit
set_option linter.unusedVariables false
set_option linter.unusedSimpArgs false

def joinW : List (List UInt8) → List UInt8
  | [] => []
  | [a] => a
  | a :: b :: r => a ++ 32 :: joinW (b :: r)
theorem joinW_wds (l : List UInt8) : joinW (wds l) = l := by
  induction l with
  | nil => rfl
  | cons c r ih =>
    unfold wds
    by_cases h : c = 32
    · rw [if_pos h]
      cases e : wds r with
      | nil => exact absurd e (wds_ne r)
      | cons a t =>
        rw [e] at ih
        show [] ++ 32 :: joinW (a :: t) = _
        rw [ih, h]; rfl
    · rw [if_neg h]
      cases e : wds r with
      | nil => exact absurd e (wds_ne r)
      | cons a t =>
        rw [e] at ih
        cases t with
        | nil => show c :: a = _; have : a = r := ih; rw [this]
        | cons b t => show c :: (a ++ 32 :: joinW (b :: t)) = _; rw [show a ++ 32 :: joinW (b :: t) = r from ih]
theorem words_lists {s : ByteArray} {L : List ByteArray} (h : words s = L) : wds s.data.toList = L.map (·.data.toList) := by
  rw [← h]
  unfold words
  rw [List.map_map]
  conv => lhs; rw [← List.map_id (wds s.data.toList)]
  apply List.map_congr_left
  intro a _
  simp
theorem pln_of_words {s : ByteArray} {w0 w1 w2 w3 w4 : ByteArray} {a b c : Int} (h : words s = [w0, w1, w2, w3, w4]) (h2 : NumW w2 a) (h3 : NumW w3 b) (h4 : NumW w4 c) : s.data.toList = pln ⟨w0, w1, a, b, c⟩ := by
  have e := joinW_wds s.data.toList
  rw [words_lists h] at e
  rw [← e]
  show w0.data.toList ++ 32 :: (w1.data.toList ++ 32 :: (w2.data.toList ++ 32 :: (w3.data.toList ++ 32 :: w4.data.toList))) = _
  rw [h2.2, h3.2, h4.2]
  rfl
theorem words_of_pln {s : ByteArray} {p : Pmr} (h : s.data.toList = pln p) (hp : formP p) : words s = [p.nm, p.nd, ⟨(Lib.itoa p.ev).toArray⟩, ⟨(Lib.itoa p.vol).toArray⟩, ⟨(Lib.itoa p.tot).toArray⟩] := by
  unfold words
  rw [h, wds_pln hp]
  simp [bytes_of]
theorem blk5_end {w wx : World} {cs : Array Value} {a b c d e : Value} (h : Blk wx w.heap.size 26 cs) (hc : cs.size = 5) (hb : Below w.heap.size w wx) :
    Blk (((((wx.setCell ⟨w.heap.size, 0, none⟩ a).setCell ⟨w.heap.size, 1, none⟩ b).setCell ⟨w.heap.size, 2, none⟩ c).setCell ⟨w.heap.size, 3, none⟩ d).setCell ⟨w.heap.size, 4, none⟩ e) w.heap.size 26 #[a, b, c, d, e] ∧
    Below w.heap.size w (((((wx.setCell ⟨w.heap.size, 0, none⟩ a).setCell ⟨w.heap.size, 1, none⟩ b).setCell ⟨w.heap.size, 2, none⟩ c).setCell ⟨w.heap.size, 3, none⟩ d).setCell ⟨w.heap.size, 4, none⟩ e) :=
  ⟨blk5_set h hc, ((((hb.setCell (p := ⟨w.heap.size, 0, none⟩) (Nat.le_refl _) _).setCell (p := ⟨w.heap.size, 1, none⟩) (Nat.le_refl _) _).setCell (p := ⟨w.heap.size, 2, none⟩) (Nat.le_refl _) _).setCell (p := ⟨w.heap.size, 3, none⟩) (Nat.le_refl _) _).setCell (p := ⟨w.heap.size, 4, none⟩) (Nat.le_refl _) _⟩
set_option maxRecDepth 100000 in
set_option maxHeartbeats 4000000 in
/-- A line that is no permit's: the words are not five, or no names. -/
theorem pline_bad (s : ByteArray) (hs : s.size ≤ 100000) (X : Nat → ByteArray) (hX : X = fun k => (words s).getD k ByteArray.empty) (N : Nat) (hN : N = (words s).length) (hNb : N ≤ 200000) (hb : N ≠ 5 ∨ (N = 5 ∧ (nameB (X 0).data.toList = false ∨ nameB (X 1).data.toList = false))) (hsz : ∀ k, (X k).size ≤ 100000) (w : World) :
    Calls Tryz.prog 29 #[.string s] w fun e w' => e = .returned (.tuple #[.agg #[.string ⟨#[]⟩, .string ⟨#[]⟩, .int .i64 0, .int .i64 0, .int .i64 0], .bool false]) ∧ Below w.heap.size w w' := by
  have ss := fun w => tsplitw s hs w
  rw [← hN, ← hX] at ss
  have SS := Lib.hid ss
  by_cases h5 : N = 5
  case neg =>
    have T0 : ((N : Int) == 5) = false := by simp <;> omega
    have T0' : decide (N = 5) = false := decide_eq_false h5
    have T0'' : (N == 5) = false := by simp [h5]
    have T1 : ((N : Int) != 5) = true := by simp <;> omega
    clear hb ss hs hX hN hsz
    go_enter Tryz.func29, Tryz.ntmps29
    go_wp2_with (first
      | (go_at_call 48
         with_reducible refine (SS.out _).mono ?_
         rintro e w1 ⟨rfl, hst, hb1⟩
         have HST := Lib.hid hst
         have BZ1 := Lib.hid ((Blk.new w 26 #[.string ⟨#[]⟩, .string ⟨#[]⟩, .int .i64 0, .int .i64 0, .int .i64 0]).call hb1)
         have BW1 := Lib.hid (((Below.refl _ w).alloc (Nat.le_refl _) (.cells #[.string ⟨#[]⟩, .string ⟨#[]⟩, .int .i64 0, .int .i64 0, .int .i64 0] 26)).trans (hb1.mono (by simp)))
         obtain ⟨z0, z1, z2, z3, z4⟩ := perm_cells BZ1.out
         obtain ⟨f0, f1, f2, f3, f4⟩ := frozen5 BZ1.out
         have l1 := BZ1.out.lt
         skip
         clear hb1 hst))
    have HE5 := blk5_end (w := w) (a := .string ⟨#[]⟩) (b := .string ⟨#[]⟩) (c := .int .i64 0) (d := .int .i64 0) (e := .int .i64 0) BZ1.out rfl BW1.out
    obtain ⟨HE1, he2⟩ := HE5
    have HE2 := Lib.hid he2
    clear he2
    generalize (((((w1.setCell ⟨w.heap.size, 0, none⟩ (.string ⟨#[]⟩)).setCell ⟨w.heap.size, 1, none⟩ (.string ⟨#[]⟩)).setCell ⟨w.heap.size, 2, none⟩ (.int .i64 0)).setCell ⟨w.heap.size, 3, none⟩ (.int .i64 0)).setCell ⟨w.heap.size, 4, none⟩ (.int .i64 0)) = wq at HE1 HE2 ⊢
    obtain ⟨s0, s1, s2, s3, s4⟩ := perm_cells HE1
    refine bodyPost_ret (v := .tuple #[.agg #[.string ⟨#[]⟩, .string ⟨#[]⟩, .int .i64 0, .int .i64 0, .int .i64 0], .bool false]) (by simp [results, Tryz.results29, go_sem, s0, s1, s2, s3, s4]) rfl ⟨rfl, HE2.out⟩
  subst h5
  have m0 : (X 0).size ≤ maxLen := by have := hsz 0; unfold maxLen; omega
  have m1 : (X 1).size ≤ maxLen := by have := hsz 1; unfold maxLen; omega
  have sn0 := fun w => disname (X 0) m0 w
  have sn1 := fun w => disname (X 1) m1 w
  cases hv0 : nameB (X 0).data.toList with
  | false =>
    rw [hv0] at sn0
    have SN0 := Lib.hid sn0
    clear hb ss hN hs sn0 sn1 m0 m1 hsz hv0 hX hNb
    go_enter Tryz.func29, Tryz.ntmps29
    go_wp2_with (first
      | (go_at_call 48
         with_reducible refine (SS.out _).mono ?_
         rintro e w1 ⟨rfl, hst, hb1⟩
         have HST := Lib.hid hst
         have BZ1 := Lib.hid ((Blk.new w 26 #[.string ⟨#[]⟩, .string ⟨#[]⟩, .int .i64 0, .int .i64 0, .int .i64 0]).call hb1)
         have BW1 := Lib.hid (((Below.refl _ w).alloc (Nat.le_refl _) (.cells #[.string ⟨#[]⟩, .string ⟨#[]⟩, .int .i64 0, .int .i64 0, .int .i64 0] 26)).trans (hb1.mono (by simp)))
         obtain ⟨z0, z1, z2, z3, z4⟩ := perm_cells BZ1.out
         obtain ⟨f0, f1, f2, f3, f4⟩ := frozen5 BZ1.out
         have l1 := BZ1.out.lt
         have zw0 := (HST.out.2 0 (by omega))
         have zw1 := (HST.out.2 1 (by omega))
         simp only [World.size_alloc, Nat.zero_add] at zw0 zw1
         clear hb1 hst)
      | (go_at_call 33
         with_reducible refine (SN0.out _).mono ?_
         rintro e w' ⟨rfl, rfl⟩))
    have HE5 := blk5_end (w := w) (a := .string ⟨#[]⟩) (b := .string ⟨#[]⟩) (c := .int .i64 0) (d := .int .i64 0) (e := .int .i64 0) BZ1.out rfl BW1.out
    obtain ⟨HE1, he2⟩ := HE5
    have HE2 := Lib.hid he2
    clear he2
    generalize (((((w1.setCell ⟨w.heap.size, 0, none⟩ (.string ⟨#[]⟩)).setCell ⟨w.heap.size, 1, none⟩ (.string ⟨#[]⟩)).setCell ⟨w.heap.size, 2, none⟩ (.int .i64 0)).setCell ⟨w.heap.size, 3, none⟩ (.int .i64 0)).setCell ⟨w.heap.size, 4, none⟩ (.int .i64 0)) = wq at HE1 HE2 ⊢
    obtain ⟨s0, s1, s2, s3, s4⟩ := perm_cells HE1
    refine bodyPost_ret (v := .tuple #[.agg #[.string ⟨#[]⟩, .string ⟨#[]⟩, .int .i64 0, .int .i64 0, .int .i64 0], .bool false]) (by simp [results, Tryz.results29, go_sem, s0, s1, s2, s3, s4]) rfl ⟨rfl, HE2.out⟩
  | true =>
    have hv1 : nameB (X 1).data.toList = false := by
      rcases hb with h | ⟨_, h | h⟩
      · exact absurd rfl h
      · rw [hv0] at h; cases h
      · exact h
    rw [hv0] at sn0
    rw [hv1] at sn1
    have SN0 := Lib.hid sn0
    have SN1 := Lib.hid sn1
    clear hb ss hN hs sn0 sn1 m0 m1 hsz hv0 hv1 hX hNb
    go_enter Tryz.func29, Tryz.ntmps29
    go_wp2_with (first
      | (go_at_call 48
         with_reducible refine (SS.out _).mono ?_
         rintro e w1 ⟨rfl, hst, hb1⟩
         have HST := Lib.hid hst
         have BZ1 := Lib.hid ((Blk.new w 26 #[.string ⟨#[]⟩, .string ⟨#[]⟩, .int .i64 0, .int .i64 0, .int .i64 0]).call hb1)
         have BW1 := Lib.hid (((Below.refl _ w).alloc (Nat.le_refl _) (.cells #[.string ⟨#[]⟩, .string ⟨#[]⟩, .int .i64 0, .int .i64 0, .int .i64 0] 26)).trans (hb1.mono (by simp)))
         obtain ⟨z0, z1, z2, z3, z4⟩ := perm_cells BZ1.out
         obtain ⟨f0, f1, f2, f3, f4⟩ := frozen5 BZ1.out
         have l1 := BZ1.out.lt
         have zw0 := (HST.out.2 0 (by omega))
         have zw1 := (HST.out.2 1 (by omega))
         simp only [World.size_alloc, Nat.zero_add] at zw0 zw1
         clear hb1 hst)
      | (go_at_call 33
         with_reducible refine (SN0.out _).mono ?_
         rintro e w' ⟨rfl, rfl⟩)
      | (go_at_call 33
         with_reducible refine (SN1.out _).mono ?_
         rintro e w' ⟨rfl, rfl⟩))
    have HE5 := blk5_end (w := w) (a := .string ⟨#[]⟩) (b := .string ⟨#[]⟩) (c := .int .i64 0) (d := .int .i64 0) (e := .int .i64 0) BZ1.out rfl BW1.out
    obtain ⟨HE1, he2⟩ := HE5
    have HE2 := Lib.hid he2
    clear he2
    generalize (((((w1.setCell ⟨w.heap.size, 0, none⟩ (.string ⟨#[]⟩)).setCell ⟨w.heap.size, 1, none⟩ (.string ⟨#[]⟩)).setCell ⟨w.heap.size, 2, none⟩ (.int .i64 0)).setCell ⟨w.heap.size, 3, none⟩ (.int .i64 0)).setCell ⟨w.heap.size, 4, none⟩ (.int .i64 0)) = wq at HE1 HE2 ⊢
    obtain ⟨s0, s1, s2, s3, s4⟩ := perm_cells HE1
    refine bodyPost_ret (v := .tuple #[.agg #[.string ⟨#[]⟩, .string ⟨#[]⟩, .int .i64 0, .int .i64 0, .int .i64 0], .bool false]) (by simp [results, Tryz.results29, go_sem, s0, s1, s2, s3, s4]) rfl ⟨rfl, HE2.out⟩
/-- The cells of the numbers read so far. -/
def cellsV (V : Nat → Int) (i : Nat) : Array Value := #[.int .i64 (if 0 < i then V 0 else 0), .int .i64 (if 1 < i then V 1 else 0), .int .i64 (if 2 < i then V 2 else 0)]
theorem strat_far {w : World} {b off n : Nat} {X : Nat → ByteArray} (h : StrAt w b off n X) {p : Addr} (hp : b ≠ p.block) (u : Value) : StrAt (w.setCell p u) b off n X :=
  ⟨by have : (w.setCell p u).heap.size = w.heap.size := by simp [World.setCell]
      rw [this]; exact h.1, fun k hk => (World.cell?_of_block (Below.heap_setCell w p u b hp)).trans (h.2 k hk)⟩
structure LnM (w wr : World) (G : Nat) (X : Nat → ByteArray) (V : Nat → Int) (i : Nat) : Prop where
  bz : Blk wr w.heap.size 26 #[.string ⟨#[]⟩, .string ⟨#[]⟩, .int .i64 0, .int .i64 0, .int .i64 0]
  bn : Blk wr G 91 (cellsV V i)
  hw : Below w.heap.size w wr
  hs : StrAt wr (w.heap.size + 1) 0 5 X
set_option maxRecDepth 100000 in
set_option maxHeartbeats 8000000 in
theorem pline_go (s : ByteArray) (hs : s.size ≤ 100000) (X : Nat → ByteArray) (hX : X = fun k => (words s).getD k ByteArray.empty) (hN : (words s).length = 5) (hv0 : nameB (X 0).data.toList = true) (hv1 : nameB (X 1).data.toList = true) (hsz : ∀ k, (X k).size ≤ 100000)
    (V : Nat → Int) (K : Nat) (hK : K ≤ 3) (hok : ∀ j, j < K → NumW (X (j + 2)) (V j)) (hbad : K < 3 → ∀ v, ¬ NumW (X (K + 2)) v) (w : World) (hE : Env5 w) :
    Calls Tryz.prog 29 #[.string s] w fun e w' => e = .returned (if K = 3 then .tuple #[.agg #[.string (X 0), .string (X 1), .int .i64 (V 0), .int .i64 (V 1), .int .i64 (V 2)], .bool true] else .tuple #[.agg #[.string ⟨#[]⟩, .string ⟨#[]⟩, .int .i64 0, .int .i64 0, .int .i64 0], .bool false]) ∧ Below w.heap.size w w' := by
  have ss := fun w => tsplitw s hs w
  rw [hN, ← hX] at ss
  have SS := Lib.hid ss
  have sn0 := fun w => disname (X 0) (by have := hsz 0; unfold maxLen; omega) w
  have sn1 := fun w => disname (X 1) (by have := hsz 1; unfold maxLen; omega) w
  rw [hv0] at sn0
  rw [hv1] at sn1
  have SN0 := Lib.hid sn0
  have SN1 := Lib.hid sn1
  have HE := Lib.hid hE
  have HOK := Lib.hid hok
  have HBAD := Lib.hid hbad
  have HK := Lib.hid hK
  have HXS := Lib.hid hsz
  clear hs ss sn0 sn1 hv0 hv1 hE hok hbad hK hsz hX hN
  go_enter Tryz.func29, Tryz.ntmps29
  go_upto_region 5 with (first
    | (go_at_call 48
       with_reducible refine (SS.out _).mono ?_
       rintro e w1 ⟨rfl, hst, hb1⟩
       have HST := Lib.hid hst
       have BZ1 := Lib.hid ((Blk.new w 26 #[.string ⟨#[]⟩, .string ⟨#[]⟩, .int .i64 0, .int .i64 0, .int .i64 0]).call hb1)
       have BW1 := Lib.hid (((Below.refl _ w).alloc (Nat.le_refl _) (.cells #[.string ⟨#[]⟩, .string ⟨#[]⟩, .int .i64 0, .int .i64 0, .int .i64 0] 26)).trans (hb1.mono (by simp)))
       obtain ⟨z0, z1, z2, z3, z4⟩ := perm_cells BZ1.out
       obtain ⟨f0, f1, f2, f3, f4⟩ := frozen5 BZ1.out
       have l1 := BZ1.out.lt
       have zw0 := (HST.out.2 0 (by omega))
       have zw1 := (HST.out.2 1 (by omega))
       simp only [World.size_alloc, Nat.zero_add] at zw0 zw1
       clear hb1 hst)
    | (go_at_call 33
       with_reducible refine (SN0.out _).mono ?_
       rintro e w' ⟨rfl, rfl⟩)
    | (go_at_call 33
       with_reducible refine (SN1.out _).mono ?_
       rintro e w' ⟨rfl, rfl⟩))
  obtain ⟨G, hG⟩ : ∃ G, w1.heap.size = G := ⟨_, rfl⟩
  have hst2 := HST.out
  simp only [World.size_alloc] at hst2
  have hHG : w.heap.size ≠ G ∧ w.heap.size ≤ G ∧ w.heap.size + 1 ≠ G := by have := hst2.1; omega
  have HG := Lib.hid hHG
  have BN := Blk.new w1 91 #[.int .i64 0, .int .i64 0, .int .i64 0]
  rw [hG] at BN
  have HM0 : Hid (LnM w (w1.alloc (.cells #[.int .i64 0, .int .i64 0, .int .i64 0] 91)) G X V 0) := ⟨BZ1.out.alloc _, by simpa [cellsV] using BN, BW1.out.alloc BW1.out.size _, hst2.below ((Below.refl _ w1).alloc (Nat.le_refl _) _) hst2.1⟩
  rw [hG]
  clear hst2 hHG BN hG zw0 zw1 z0 z1 z2 z3 z4 f0 f1 f2 f3 f4 l1 HST BZ1 BW1
  generalize w1.alloc (.cells #[.int .i64 0, .int .i64 0, .int .i64 0] 91) = w2 at HM0 ⊢
  go_wp2_with fail
  go_loopw [29] (fun u wr => ∃ i : Nat, Hid (i ≤ K) ∧ u = .int .i64 i ∧ Hid (LnM w wr G X V i)) (fun u _ => 3 - (intOf u).toNat)
  case atStart => exact ⟨0, Nat.zero_le _, rfl, HM0⟩
  case round =>
    obtain ⟨i, Hi, rfl, HM⟩ := hrel
    have BZr := Lib.hid HM.out.bz
    have BNr := Lib.hid HM.out.bn
    have HWr := Lib.hid HM.out.hw
    have HSr := Lib.hid HM.out.hs
    have hi3 : i = 0 ∨ i = 1 ∨ i = 2 ∨ i = 3 := by have := Hi.out; have := HK.out; omega
    unfold cellsV at BNr
    rcases hi3 with rfl | rfl | rfl | rfl
    · simp only [Nat.lt_irrefl, if_false, Nat.not_lt_zero] at BNr
      have hz0 := HSr.out.2 2 (by omega)
      simp only [Nat.zero_add] at hz0
      by_cases hk : 0 < K
      · have SNU := Lib.hid (pnum_ok (X 2) (V 0) (HOK.out 0 hk))
        have HR : Hid (0 + 1 ≤ K) := hk
        clear hk
        go_wp2_with (first
          | (go_at_call 49
             with_reducible refine (SNU.out _ (HE.out.below HWr.out)).mono ?_
             rintro e wn ⟨rfl, hbn⟩
             have BZn := Lib.hid (BZr.out.call hbn)
             have BNn := Lib.hid (BNr.out.call hbn)
             have HSn := Lib.hid (HSr.out.below hbn HSr.out.1)
             have HWn := Lib.hid (below_step HWr.out hbn)
             obtain ⟨y0, y1, y2, y3, y4⟩ := perm_cells BZn.out
             obtain ⟨f0, f1, f2, f3, f4⟩ := frozen5 BZn.out
             have g0 := BNn.out.cell 0
             have g1 := BNn.out.cell 1
             have g2 := BNn.out.cell 2
             have gf0 := BNn.out.frozen 0
             have gf1 := BNn.out.frozen 1
             have gf2 := BNn.out.frozen 2
             have ln := BZn.out.lt
             simp only [List.getElem?_toArray, List.getElem?_cons_zero, List.getElem?_cons_succ] at g0 g1 g2
             clear hbn))
        have BNs := Lib.hid (BNn.out.set_ 0 (.int .i64 (V 0)))
        have BZs := Lib.hid (BZn.out.far (p := ⟨G, 0, none⟩) (by show w.heap.size ≠ G; exact HG.out.1) (.int .i64 (V 0)))
        have HWs := Lib.hid (HWn.out.setCell (p := ⟨G, 0, none⟩) HG.out.2.1 (.int .i64 (V 0)))
        have HSs : Hid (StrAt (wn.setCell ⟨G, 0, none⟩ (.int .i64 (V 0))) (w.heap.size + 1) 0 5 X) := strat_far HSn.out HG.out.2.2 _
        go_roundw
        case rel => exact ⟨1, HR, rfl, ⟨BZs.out, by simpa [cellsV] using BNs.out, HWs.out, HSs.out⟩⟩
        case measure => simp [intOf]
      · have hb0 : ∀ v, ¬ NumW (X 2) v := by
          have h2 := Hi.out
          have h3 : K = 0 := by omega
          have h4 := HBAD.out (by omega)
          rw [h3] at h4
          exact h4
        obtain ⟨nq, sq⟩ := pnum_no (X 2) (HXS.out 2) hb0
        have SNU := Lib.hid sq
        have HK3 : Hid (¬ K = 3) := by show ¬ _; have := Hi.out; omega
        clear hk sq hb0
        go_wp2_with (first
          | (go_at_call 49
             with_reducible refine (SNU.out _ (HE.out.below HWr.out)).mono ?_
             rintro e wn ⟨rfl, hbn⟩
             have BZn := Lib.hid (BZr.out.call hbn)
             have BNn := Lib.hid (BNr.out.call hbn)
             have HSn := Lib.hid (HSr.out.below hbn HSr.out.1)
             have HWn := Lib.hid (below_step HWr.out hbn)
             obtain ⟨y0, y1, y2, y3, y4⟩ := perm_cells BZn.out
             obtain ⟨f0, f1, f2, f3, f4⟩ := frozen5 BZn.out
             have g0 := BNn.out.cell 0
             have g1 := BNn.out.cell 1
             have g2 := BNn.out.cell 2
             have gf0 := BNn.out.frozen 0
             have gf1 := BNn.out.frozen 1
             have gf2 := BNn.out.frozen 2
             have ln := BZn.out.lt
             simp only [List.getElem?_toArray, List.getElem?_cons_zero, List.getElem?_cons_succ] at g0 g1 g2
             clear hbn))
        have HE5 := blk5_end (w := w) (a := .string ⟨#[]⟩) (b := .string ⟨#[]⟩) (c := .int .i64 0) (d := .int .i64 0) (e := .int .i64 0) BZn.out rfl HWn.out
        obtain ⟨HE1, he2⟩ := HE5
        have HE2 := Lib.hid he2
        clear he2
        generalize (((((wn.setCell ⟨w.heap.size, 0, none⟩ (.string ⟨#[]⟩)).setCell ⟨w.heap.size, 1, none⟩ (.string ⟨#[]⟩)).setCell ⟨w.heap.size, 2, none⟩ (.int .i64 0)).setCell ⟨w.heap.size, 3, none⟩ (.int .i64 0)).setCell ⟨w.heap.size, 4, none⟩ (.int .i64 0)) = wq at HE1 HE2 ⊢
        obtain ⟨s0, s1, s2, s3, s4⟩ := perm_cells HE1
        refine bodyPost_ret (v := .tuple #[.agg #[.string ⟨#[]⟩, .string ⟨#[]⟩, .int .i64 0, .int .i64 0, .int .i64 0], .bool false]) (by simp [results, Tryz.results29, go_sem, s0, s1, s2, s3, s4]) rfl ⟨rfl, HE2.out⟩
    · simp only [Nat.lt_irrefl, if_false, Nat.not_lt_zero, Nat.zero_lt_one, if_true, show ¬ (2 < 1) from by decide] at BNr
      have hz0 := HSr.out.2 3 (by omega)
      simp only [Nat.zero_add] at hz0
      by_cases hk : 1 < K
      · have SNU := Lib.hid (pnum_ok (X 3) (V 1) (HOK.out 1 hk))
        have HR : Hid (1 + 1 ≤ K) := hk
        clear hk
        go_wp2_with (first
          | (go_at_call 49
             with_reducible refine (SNU.out _ (HE.out.below HWr.out)).mono ?_
             rintro e wn ⟨rfl, hbn⟩
             have BZn := Lib.hid (BZr.out.call hbn)
             have BNn := Lib.hid (BNr.out.call hbn)
             have HSn := Lib.hid (HSr.out.below hbn HSr.out.1)
             have HWn := Lib.hid (below_step HWr.out hbn)
             obtain ⟨y0, y1, y2, y3, y4⟩ := perm_cells BZn.out
             obtain ⟨f0, f1, f2, f3, f4⟩ := frozen5 BZn.out
             have g0 := BNn.out.cell 0
             have g1 := BNn.out.cell 1
             have g2 := BNn.out.cell 2
             have gf0 := BNn.out.frozen 0
             have gf1 := BNn.out.frozen 1
             have gf2 := BNn.out.frozen 2
             have ln := BZn.out.lt
             simp only [List.getElem?_toArray, List.getElem?_cons_zero, List.getElem?_cons_succ] at g0 g1 g2
             clear hbn))
        have BNs := Lib.hid (BNn.out.set_ 1 (.int .i64 (V 1)))
        have BZs := Lib.hid (BZn.out.far (p := ⟨G, 1, none⟩) (by show w.heap.size ≠ G; exact HG.out.1) (.int .i64 (V 1)))
        have HWs := Lib.hid (HWn.out.setCell (p := ⟨G, 1, none⟩) HG.out.2.1 (.int .i64 (V 1)))
        have HSs : Hid (StrAt (wn.setCell ⟨G, 1, none⟩ (.int .i64 (V 1))) (w.heap.size + 1) 0 5 X) := strat_far HSn.out HG.out.2.2 _
        go_roundw
        case rel => exact ⟨2, HR, rfl, ⟨BZs.out, by simpa [cellsV] using BNs.out, HWs.out, HSs.out⟩⟩
        case measure => simp [intOf]
      · have hb1 : ∀ v, ¬ NumW (X 3) v := by
          have h2 := Hi.out
          have h3 : K = 1 := by omega
          have h4 := HBAD.out (by omega)
          rw [h3] at h4
          exact h4
        obtain ⟨nq, sq⟩ := pnum_no (X 3) (HXS.out 3) hb1
        have SNU := Lib.hid sq
        have HK3 : Hid (¬ K = 3) := by show ¬ _; have := Hi.out; omega
        clear hk sq hb1
        go_wp2_with (first
          | (go_at_call 49
             with_reducible refine (SNU.out _ (HE.out.below HWr.out)).mono ?_
             rintro e wn ⟨rfl, hbn⟩
             have BZn := Lib.hid (BZr.out.call hbn)
             have BNn := Lib.hid (BNr.out.call hbn)
             have HSn := Lib.hid (HSr.out.below hbn HSr.out.1)
             have HWn := Lib.hid (below_step HWr.out hbn)
             obtain ⟨y0, y1, y2, y3, y4⟩ := perm_cells BZn.out
             obtain ⟨f0, f1, f2, f3, f4⟩ := frozen5 BZn.out
             have g0 := BNn.out.cell 0
             have g1 := BNn.out.cell 1
             have g2 := BNn.out.cell 2
             have gf0 := BNn.out.frozen 0
             have gf1 := BNn.out.frozen 1
             have gf2 := BNn.out.frozen 2
             have ln := BZn.out.lt
             simp only [List.getElem?_toArray, List.getElem?_cons_zero, List.getElem?_cons_succ] at g0 g1 g2
             clear hbn))
        have HE5 := blk5_end (w := w) (a := .string ⟨#[]⟩) (b := .string ⟨#[]⟩) (c := .int .i64 0) (d := .int .i64 0) (e := .int .i64 0) BZn.out rfl HWn.out
        obtain ⟨HE1, he2⟩ := HE5
        have HE2 := Lib.hid he2
        clear he2
        generalize (((((wn.setCell ⟨w.heap.size, 0, none⟩ (.string ⟨#[]⟩)).setCell ⟨w.heap.size, 1, none⟩ (.string ⟨#[]⟩)).setCell ⟨w.heap.size, 2, none⟩ (.int .i64 0)).setCell ⟨w.heap.size, 3, none⟩ (.int .i64 0)).setCell ⟨w.heap.size, 4, none⟩ (.int .i64 0)) = wq at HE1 HE2 ⊢
        obtain ⟨s0, s1, s2, s3, s4⟩ := perm_cells HE1
        refine bodyPost_ret (v := .tuple #[.agg #[.string ⟨#[]⟩, .string ⟨#[]⟩, .int .i64 0, .int .i64 0, .int .i64 0], .bool false]) (by simp [results, Tryz.results29, go_sem, s0, s1, s2, s3, s4]) rfl ⟨rfl, HE2.out⟩
    · simp only [Nat.lt_irrefl, if_false, show (0 < 2) from by decide, show (1 < 2) from by decide, if_true] at BNr
      have hz0 := HSr.out.2 4 (by omega)
      simp only [Nat.zero_add] at hz0
      by_cases hk : 2 < K
      · have SNU := Lib.hid (pnum_ok (X 4) (V 2) (HOK.out 2 hk))
        have HR : Hid (2 + 1 ≤ K) := hk
        clear hk
        go_wp2_with (first
          | (go_at_call 49
             with_reducible refine (SNU.out _ (HE.out.below HWr.out)).mono ?_
             rintro e wn ⟨rfl, hbn⟩
             have BZn := Lib.hid (BZr.out.call hbn)
             have BNn := Lib.hid (BNr.out.call hbn)
             have HSn := Lib.hid (HSr.out.below hbn HSr.out.1)
             have HWn := Lib.hid (below_step HWr.out hbn)
             obtain ⟨y0, y1, y2, y3, y4⟩ := perm_cells BZn.out
             obtain ⟨f0, f1, f2, f3, f4⟩ := frozen5 BZn.out
             have g0 := BNn.out.cell 0
             have g1 := BNn.out.cell 1
             have g2 := BNn.out.cell 2
             have gf0 := BNn.out.frozen 0
             have gf1 := BNn.out.frozen 1
             have gf2 := BNn.out.frozen 2
             have ln := BZn.out.lt
             simp only [List.getElem?_toArray, List.getElem?_cons_zero, List.getElem?_cons_succ] at g0 g1 g2
             clear hbn))
        have BNs := Lib.hid (BNn.out.set_ 2 (.int .i64 (V 2)))
        have BZs := Lib.hid (BZn.out.far (p := ⟨G, 2, none⟩) (by show w.heap.size ≠ G; exact HG.out.1) (.int .i64 (V 2)))
        have HWs := Lib.hid (HWn.out.setCell (p := ⟨G, 2, none⟩) HG.out.2.1 (.int .i64 (V 2)))
        have HSs : Hid (StrAt (wn.setCell ⟨G, 2, none⟩ (.int .i64 (V 2))) (w.heap.size + 1) 0 5 X) := strat_far HSn.out HG.out.2.2 _
        go_roundw
        case rel => exact ⟨3, HR, rfl, ⟨BZs.out, by simpa [cellsV] using BNs.out, HWs.out, HSs.out⟩⟩
        case measure => simp [intOf]
      · have hb2 : ∀ v, ¬ NumW (X 4) v := by
          have h2 := Hi.out
          have h3 : K = 2 := by omega
          have h4 := HBAD.out (by omega)
          rw [h3] at h4
          exact h4
        obtain ⟨nq, sq⟩ := pnum_no (X 4) (HXS.out 4) hb2
        have SNU := Lib.hid sq
        have HK3 : Hid (¬ K = 3) := by show ¬ _; have := Hi.out; omega
        clear hk sq hb2
        go_wp2_with (first
          | (go_at_call 49
             with_reducible refine (SNU.out _ (HE.out.below HWr.out)).mono ?_
             rintro e wn ⟨rfl, hbn⟩
             have BZn := Lib.hid (BZr.out.call hbn)
             have BNn := Lib.hid (BNr.out.call hbn)
             have HSn := Lib.hid (HSr.out.below hbn HSr.out.1)
             have HWn := Lib.hid (below_step HWr.out hbn)
             obtain ⟨y0, y1, y2, y3, y4⟩ := perm_cells BZn.out
             obtain ⟨f0, f1, f2, f3, f4⟩ := frozen5 BZn.out
             have g0 := BNn.out.cell 0
             have g1 := BNn.out.cell 1
             have g2 := BNn.out.cell 2
             have gf0 := BNn.out.frozen 0
             have gf1 := BNn.out.frozen 1
             have gf2 := BNn.out.frozen 2
             have ln := BZn.out.lt
             simp only [List.getElem?_toArray, List.getElem?_cons_zero, List.getElem?_cons_succ] at g0 g1 g2
             clear hbn))
        have HE5 := blk5_end (w := w) (a := .string ⟨#[]⟩) (b := .string ⟨#[]⟩) (c := .int .i64 0) (d := .int .i64 0) (e := .int .i64 0) BZn.out rfl HWn.out
        obtain ⟨HE1, he2⟩ := HE5
        have HE2 := Lib.hid he2
        clear he2
        generalize (((((wn.setCell ⟨w.heap.size, 0, none⟩ (.string ⟨#[]⟩)).setCell ⟨w.heap.size, 1, none⟩ (.string ⟨#[]⟩)).setCell ⟨w.heap.size, 2, none⟩ (.int .i64 0)).setCell ⟨w.heap.size, 3, none⟩ (.int .i64 0)).setCell ⟨w.heap.size, 4, none⟩ (.int .i64 0)) = wq at HE1 HE2 ⊢
        obtain ⟨s0, s1, s2, s3, s4⟩ := perm_cells HE1
        refine bodyPost_ret (v := .tuple #[.agg #[.string ⟨#[]⟩, .string ⟨#[]⟩, .int .i64 0, .int .i64 0, .int .i64 0], .bool false]) (by simp [results, Tryz.results29, go_sem, s0, s1, s2, s3, s4]) rfl ⟨rfl, HE2.out⟩
    · simp only [show (0 < 3) from by decide, show (1 < 3) from by decide, show (2 < 3) from by decide, if_true] at BNr
      have hK3 : K = 3 := by have := Hi.out; have := HK.out; omega
      have HK3 := Lib.hid hK3
      have hz0 := HSr.out.2 0 (by omega)
      have hz1 := HSr.out.2 1 (by omega)
      simp only [Nat.zero_add] at hz0 hz1
      obtain ⟨y0, y1, y2, y3, y4⟩ := perm_cells BZr.out
      obtain ⟨f0, f1, f2, f3, f4⟩ := frozen5 BZr.out
      have g0 := BNr.out.cell 0
      have g1 := BNr.out.cell 1
      have g2 := BNr.out.cell 2
      have ln := BZr.out.lt
      simp only [List.getElem?_toArray, List.getElem?_cons_zero, List.getElem?_cons_succ] at g0 g1 g2
      clear hK3
      go_upto_region 13 with fail
      go_region
      have HE5 := blk5_end (w := w) (a := .string (X 0)) (b := .string (X 1)) (c := .int .i64 (V 0)) (d := .int .i64 (V 1)) (e := .int .i64 (V 2)) BZr.out rfl HWr.out
      obtain ⟨HE1, he2⟩ := HE5
      have HE2 := Lib.hid he2
      clear he2
      generalize (((((wr.setCell ⟨w.heap.size, 0, none⟩ (.string (X 0))).setCell ⟨w.heap.size, 1, none⟩ (.string (X 1))).setCell ⟨w.heap.size, 2, none⟩ (.int .i64 (V 0))).setCell ⟨w.heap.size, 3, none⟩ (.int .i64 (V 1))).setCell ⟨w.heap.size, 4, none⟩ (.int .i64 (V 2))) = wq at HE1 HE2 ⊢
      have HE3 : Blk wq.drew w.heap.size 26 #[.string (X 0), .string (X 1), .int .i64 (V 0), .int .i64 (V 1), .int .i64 (V 2)] := HE1
      have HE4 : Hid (Below w.heap.size w wq.drew) := HE2.out.drew
      generalize wq.drew = wd at HE3 HE4 ⊢
      obtain ⟨s0, s1, s2, s3, s4⟩ := perm_cells HE3
      go_wp2_with fail
      refine bodyPost_ret (v := .tuple #[.agg #[.string (X 0), .string (X 1), .int .i64 (V 0), .int .i64 (V 1), .int .i64 (V 2)], .bool true]) (by simp [results, Tryz.results29, go_sem, s0, s1, s2, s3, s4]) rfl ⟨by first | rfl | (rw [if_pos HK3.out]), HE4.out⟩
end Go.Proofs.YtigocjhmgmhocaaGreatDoor

/- Merged texts of these proofs: OpRm, LRm. -/
import Derived.Test.YtghefgifhebniaaGreatDoorRows
import Derived.Test.YtghefgifhebniaaGreatDoorStay
import Derived.Test.YtghefgifhebniaaGreatDoorEnv
import Derived.LaidMore
import Derived.Lay
import Derived.Stop.Joined
import Derived.Stop.LaidErr
import Derived.Lib.LaidTab
import Derived.Test.YtghefgifhebniaaGreatDoorMgC
import Derived.Test.YtghefgifhebniaaGreatDoorNetW
import Derived.Test.YtghefgifhebniaaGreatDoorMgE
import Derived.Test.YtghefgifhebniaaGreatDoorMgA
import Derived.Test.YtghefgifhebniaaGreatDoorMgS
import Derived.Test.YtghefgifhebniaaGreatDoorMgX
namespace Go.Proofs.YtghefgifhebniaaGreatDoor.networkRemovesRow
open Go.Proofs.YtghefgifhebniaaGreatDoor Go.RowKit Go.WideShapes Go.ChangeShapes Go.ChangeAt Go.Deep Go.Joins
set_option linter.unusedVariables false
set_option linter.unusedSimpArgs false
theorem star_es : "*" ++ "errors.errorString" = "*errors.errorString" := by decide
theorem row_es (u : TypeId) (h : Tryz.prog.typeName? 3 u = some "*errors.errorString") : u = 238 :=
 typeName_ptr_named (nm := "errors.errorString") (by rw [star_es]; kernel_rfl) (by kernel_rfl) (by decide) u (by rw [star_es]; exact h)
set_option maxRecDepth 100000 in
theorem env_of_laid {W : World} (h : laidMetH Tryz.prog Rows.networkRemovesRow.laid W) : Env W := by
 rw [MakeChecks.laidMetH_plain _ _ _ (by kernel_rfl)] at h
 have h3 : laidMet Tryz.prog (("internal/strconv.uint64pow10", Lib.tabData .u64 Lib.pow10Tab) :: [("unicode/utf8.acceptRanges", Rows.laid_unicode_utf8_acceptRanges), ("strconv.ErrRange", Rows.laid_strconv_ErrRange), ("strconv.ErrSyntax", Rows.laid_strconv_ErrSyntax), ("unicode/utf8.first", Rows.laid_unicode_utf8_first)]) W := (h.tail).tail
 have ht := Lib.tabIs_of_head (g := 5) (t := 242) (e := 204) (n := 20) (by kernel_rfl) (by kernel_rfl) Tryz.underlying242 Tryz.underlying204 (by kernel_rfl) (by kernel_rfl) h3
 obtain ⟨a1, s1, hv1, _⟩ := laid_sentinel h3.tail.tail (g := 4) (ti := 116) (tp := 238) (te := 240) (ts := 9) (by kernel_rfl) (by kernel_rfl) Tryz.underlying116 row_es Tryz.underlying238 Tryz.underlying240 rfl rfl Tryz.underlying9 (by kernel_rfl) (by kernel_rfl)
 obtain ⟨a2, s2, hv2, _⟩ := laid_sentinel h3.tail.tail.tail (g := 3) (ti := 116) (tp := 238) (te := 240) (ts := 9) (by kernel_rfl) (by kernel_rfl) Tryz.underlying116 row_es Tryz.underlying238 Tryz.underlying240 rfl rfl Tryz.underlying9 (by kernel_rfl) (by kernel_rfl)
 exact ⟨ht, ⟨_, _, hv2⟩, ⟨_, _, hv1⟩⟩
theorem door_met (os : Os) (args : Array Value) : laidMetH Tryz.prog Rows.networkRemovesRow.laid ((World.laidAll Tryz.prog os Rows.networkRemovesRow.laid).forCall (fun _ _ => 0) ⟨#[], args, []⟩).memory := by
 rw [MakeChecks.laidMetH_plain _ _ _ (by kernel_rfl)]
 exact laidMet_laidAll _ (by kernel_rfl) (by kernel_rfl)
end Go.Proofs.YtghefgifhebniaaGreatDoor.networkRemovesRow
namespace Go.Proofs.YtghefgifhebniaaGreatDoor
open Go.RowKit Go.Sort
set_option linter.unusedVariables false
set_option linter.unusedSimpArgs false
theorem recN_copy {NM : List Ndm} {N : List Ndr} {n : Nat} (h : ndx NM = N) (hl : N.length = n) : recN (ndsM NM) n = N := by
 have l : NM.length = n := by rw [← hl, ← h]; simp [ndx]
 rw [← l, ndsM_rec, h]
theorem recL_copy {LM : List Lkm} {L : List Lkr} {m : Nat} (h : lkx LM = L) (hl : L.length = m) : recL (lksM LM) m = L := by
 have l : LM.length = m := by rw [← hl, ← h]; simp [lkx]
 rw [← l, lksM_rec, h]
theorem same_copies {A B A' B' : Option Addr} {n m c d c' d' : Nat} {NM NM' : List Ndm} {LM LM' : List Lkm} {N : List Ndr} {L : List Lkr} {w : World} (hN : N.length = n) (hL : L.length = m) (h2 : n ≤ 2000) (h3 : m ≤ 2000) (e1 : ndx NM = N) (e2 : lkx LM = L) (e1' : ndx NM' = N) (e2' : lkx LM' = L) (hnd : NdIn w A n (ndsM NM)) (hlk : LkIn w B m (lksM LM)) (hnd' : NdIn w A' n (ndsM NM')) (hlk' : LkIn w B' m (lksM LM')) :
 Calls Tryz.prog 38 #[.agg #[.slice A n c, .slice B m d], .agg #[.slice A' n c', .slice B' m d']] w fun e w' => e = .returned (.bool true) ∧ Below w.heap.size w w' := by
 have h := rsameNet A B A' B' n c m d n c' m d' (ndsM NM) (ndsM NM') (lksM LM) (lksM LM') w h2 h3 hnd hlk hnd' hlk'
 have hr : netS (ndsM NM) n (lksM LM) m (ndsM NM') n (lksM LM') m := ⟨(recN_copy e1 hN).trans (recN_copy e1' hN).symm, (recL_copy e2 hL).trans (recL_copy e2' hL).symm⟩
 rw [boolOf_true hr] at h
 exact h
theorem same_zero (D : Nds) (K : Lks) (w : World) : Calls Tryz.prog 38 #[.agg #[.slice none 0 0, .slice none 0 0], .agg #[.slice none 0 0, .slice none 0 0]] w fun e w' => e = .returned (.bool true) ∧ Below w.heap.size w w' := by
 have h := rsameNet none none none none 0 0 0 0 0 0 0 0 D D K K w (by omega) (by omega) ⟨by omega, .inl rfl⟩ ⟨by omega, .inl rfl⟩ ⟨by omega, .inl rfl⟩ ⟨by omega, .inl rfl⟩
 have hr : netS D 0 K 0 D 0 K 0 := ⟨rfl, rfl⟩
 rw [boolOf_true hr] at h
 exact h
set_option maxRecDepth 100000 in
set_option maxHeartbeats 8000000 in
theorem netremoves (NA LA : Option Addr) (n nc m lc : Nat) (D : Nds) (K : Lks) (s : ByteArray) (w : World) (hD : NdIn w NA n D) (hK : LkIn w LA m K) (hE : Env w) :
 Calls Tryz.prog 9 #[.agg #[.slice NA n nc, .slice LA m lc], .string s] w fun e w' => e = .returned (.bool true) ∧ Below w.heap.size w w' := by
 have hal : Below w.heap.size w (w.alloc (Obj.cells #[.slice NA n nc, .slice LA m lc] 25)) := (Below.refl _ w).alloc (Nat.le_refl _) _
 have HAL := Lib.hid hal
 have HB0 : Hid (Blk (w.alloc (Obj.cells #[.slice NA n nc, .slice LA m lc] 25)) w.heap.size 25 #[.slice NA n nc, .slice LA m lc]) := Blk.new _ _ _
 have HE0 := Lib.hid (hE.below hal)
 have HD := Lib.hid hD
 have HK := Lib.hid hK
 clear hD hK hE hal
 obtain ⟨V, hV⟩ : ∃ V, Hid (V = boolOf (lgP D n K m)) := ⟨_, rfl⟩
 go_enter Tryz.func9, Tryz.ntmps9
 go_upto_region 3 with (first
  | (go_at_call 14
     with_reducible refine (awake26 _ HE0.out).mono ?_
     rintro e w1 ⟨rfl, hb1⟩
     have HB1 := Lib.hid (below_step HAL.out hb1)
     have HBB := Lib.hid (HB0.out.call hb1)
     clear hb1))
 obtain ⟨y0, y1⟩ := blk2 HBB.out
 have SL : Hid (Calls Tryz.prog 15 #[.agg #[.slice NA n nc, .slice LA m lc]] w1 fun e w' => e = .returned (.bool V) ∧ Below w1.heap.size w1 w') := by rw [hV.out]; exact tlarge NA LA n nc m lc D K w1 (HD.out.below (Nat.le_refl _) HB1.out) (HK.out.below (Nat.le_refl _) HB1.out)
 by_cases hl : lgP D n K m
 · obtain rfl : V = true := hV.out.trans (boolOf_true hl)
   clear hl hV
   go_wp2_with (first
    | (go_at_call 15
       with_reducible refine SL.out.mono ?_
       rintro e w2 ⟨rfl, hb2⟩
       have HB2 := Lib.hid (below_step HB1.out hb2)
       clear hb2))
   go_ret
   exact ⟨rfl, HB2.out⟩
 obtain rfl : V = false := hV.out.trans (boolOf_false hl)
 have HZ := Lib.hid (lg_sz hl)
 have HSN : Hid (∀ k, k < n → D.SN k ≤ 2000) := fun k hk => by have := (lg_not hl).2.2.1 k hk; omega
 clear hl hV
 by_cases hs : 100 < s.size
 · have T0 : decide ((100 : Int) < (s.size : Int)) = true := decide_eq_true (by omega)
   have T0' : decide (100 < s.size) = true := decide_eq_true hs
   clear hs
   go_wp2_with (first
    | (go_at_call 15
       with_reducible refine SL.out.mono ?_
       rintro e w2 ⟨rfl, hb2⟩
       have HB2 := Lib.hid (below_step HB1.out hb2)
       clear hb2))
   go_ret
   exact ⟨rfl, HB2.out⟩
 have T0 : decide ((100 : Int) < (s.size : Int)) = false := decide_eq_false (by omega)
 have T0' : decide (100 < s.size) = false := decide_eq_false hs
 clear hs
 have SV : Hid (∀ w', Below w.heap.size w w' → Calls Tryz.prog 18 #[.agg #[.slice NA n nc, .slice LA m lc]] w' fun e w'' => e = .returned (.bool (boolOf (netP D n K m))) ∧ Below w'.heap.size w' w'') := fun w' hb => wvalidN NA LA n nc m lc D K HZ.out w' (HD.out.below (Nat.le_refl _) hb) (HK.out.below (Nat.le_refl _) hb)
 have SC : Hid (∀ w', Below w.heap.size w w' → Calls Tryz.prog 39 #[.agg #[.slice NA n nc, .slice LA m lc]] w' fun e w'' => ∃ (NM : List Ndm) (LM : List Lkm) (A B : Option Addr) (c d : Nat), e = .returned (.agg #[.slice A n c, .slice B m d]) ∧ ndx NM = recN D n ∧ lkx LM = recL K m ∧ NdIn w'' A n (ndsM NM) ∧ LkIn w'' B m (lksM LM) ∧ Below w'.heap.size w' w'') := fun w' hb => by
  refine (rcopy NA LA n nc m lc D K w' HZ.out.n2 HZ.out.m2 HSN.out HZ.out.kc (HD.out.below (Nat.le_refl _) hb) (HK.out.below (Nat.le_refl _) hb)).mono ?_
  rintro e w'' ⟨u, rfl, hcp⟩
  obtain ⟨NM, LM, A, B, c, d, e1, e2, rfl, h1, h2, h3⟩ := hcp.read (by rw [recN_len]; exact HZ.out.n2) (by rw [recL_len]; exact HZ.out.m2)
  rw [recN_len] at h1 ⊢
  rw [recL_len] at h2 ⊢
  exact ⟨NM, LM, A, B, c, d, rfl, e1, e2, h1, h2, h3⟩
 have SS : Hid (∀ w' (NM : List Ndm) (LM : List Lkm) (A B : Option Addr) (c d : Nat), Below w.heap.size w w' → ndx NM = recN D n → lkx LM = recL K m → NdIn w' A n (ndsM NM) → LkIn w' B m (lksM LM) → Calls Tryz.prog 38 #[.agg #[.slice NA n nc, .slice LA m lc], .agg #[.slice A n c, .slice B m d]] w' fun e w'' => e = .returned (.bool true) ∧ Below w'.heap.size w' w'') := fun w' NM LM A B c d hb e1 e2 hnd hlk => by
  have h := rsameNet NA LA A B n nc m lc n c m d D (ndsM NM) K (lksM LM) w' HZ.out.n2 HZ.out.m2 (HD.out.below (Nat.le_refl _) hb) (HK.out.below (Nat.le_refl _) hb) hnd hlk
  have hr : netS D n K m (ndsM NM) n (lksM LM) m := ⟨(recN_copy e1 (recN_len D n)).symm, (recL_copy e2 (recL_len K m)).symm⟩
  rw [boolOf_true hr] at h
  exact h
 have SZ := Lib.hid fun w => same_zero D K w
 by_cases hP : netP D n K m
 case neg =>
  rw [boolOf_false hP] at SV
  have SR : Hid (∀ w', Below w.heap.size w w' → Calls Tryz.prog 40 #[.agg #[.slice NA n nc, .slice LA m lc], .string s] w' fun e w'' => e = .returned (.tuple #[.agg #[.slice none 0 0, .slice none 0 0], .int .i64 1]) ∧ Below w'.heap.size w' w'') := fun w' hb => by
   refine (tnremove NA LA n nc m lc D K s HZ.out w' (HD.out.below (Nat.le_refl _) hb) (HK.out.below (Nat.le_refl _) hb)).mono ?_
   rintro e w'' (⟨_, h1, h2⟩ | ⟨h, _⟩ | ⟨h, _⟩)
   · exact ⟨h1, h2⟩
   · exact absurd h hP
   · exact absurd h hP
  clear hP
  go_upto_region 6 with (first
   | (go_at_call 15
      with_reducible refine (SL.out).mono ?_
      rintro e w2 ⟨rfl, hb2⟩
      have HB2 := Lib.hid (below_step HB1.out hb2)
      have HX2 := Lib.hid (HBB.out.call hb2)
      obtain ⟨y0, y1⟩ := blk2 HX2.out
      clear hb2)
   | (go_at_call 39
      with_reducible refine (SC.out _ HB2.out).mono ?_
      rintro e wa ⟨NM, LM, A, B, c, d, rfl, e1, e2, hnd, hlk, hb2⟩
      have HBa := Lib.hid (below_step HB2.out hb2)
      have HXa := Lib.hid (HX2.out.call hb2)
      have HNa := Lib.hid hnd
      have HLa := Lib.hid hlk
      have E1 := Lib.hid e1
      have E2 := Lib.hid e2
      clear hnd hlk e1 e2 hb2))
  have hal : Below wa.heap.size wa (wa.alloc (Obj.cells #[.slice A n c, .slice B m d] 25)) := (Below.refl _ wa).alloc (Nat.le_refl _) _
  have HO3 : Hid (Blk (wa.alloc (Obj.cells #[.slice A n c, .slice B m d] 25)) wa.heap.size 25 #[.slice A n c, .slice B m d]) := Blk.new _ _ _
  have HB3 := Lib.hid (below_step HBa.out hal)
  have HX3 := Lib.hid (HXa.out.call hal)
  have HN3 := Lib.hid (HNa.out.below (Nat.le_refl _) hal)
  have HL3 := Lib.hid (HLa.out.below (Nat.le_refl _) hal)
  clear hal HBa HXa HNa HLa
  generalize wa.alloc (Obj.cells #[.slice A n c, .slice B m d] 25) = w3 at HO3 HB3 HX3 HN3 HL3 ⊢
  generalize wa.heap.size = GO at HO3 ⊢
  obtain ⟨y0, y1⟩ := blk2 HX3.out
  go_upto_region 7 with (first
   | (go_at_call 40
      with_reducible refine (SR.out _ HB3.out).mono ?_
      rintro e wb ⟨rfl, hb2⟩
      have HBb := Lib.hid (below_step HB3.out hb2)
      have HXb := Lib.hid (HX3.out.call hb2)
      have HOb := Lib.hid (HO3.out.call hb2)
      have HNb := Lib.hid (HN3.out.below (Nat.le_refl _) hb2)
      have HLb := Lib.hid (HL3.out.below (Nat.le_refl _) hb2)
      clear hb2))
  have hal : Below wb.heap.size wb (wb.alloc (Obj.cells #[.slice none 0 0, .slice none 0 0] 25)) := (Below.refl _ wb).alloc (Nat.le_refl _) _
  have HM4 : Hid (Blk (wb.alloc (Obj.cells #[.slice none 0 0, .slice none 0 0] 25)) wb.heap.size 25 #[.slice none 0 0, .slice none 0 0]) := Blk.new _ _ _
  have HB4 := Lib.hid (below_step HBb.out hal)
  have HX4 := Lib.hid (HXb.out.call hal)
  have HO4 := Lib.hid (HOb.out.call hal)
  have HN4 := Lib.hid (HNb.out.below (Nat.le_refl _) hal)
  have HL4 := Lib.hid (HLb.out.below (Nat.le_refl _) hal)
  clear hal HBb HXb HOb HNb HLb
  generalize wb.alloc (Obj.cells #[.slice none 0 0, .slice none 0 0] 25) = w4 at HM4 HB4 HX4 HO4 HN4 HL4 ⊢
  generalize wb.heap.size = GM at HM4 ⊢
  obtain ⟨y0, y1⟩ := blk2 HX4.out
  obtain ⟨o0, o1⟩ := blk2 HO4.out
  obtain ⟨m0, m1_⟩ := blk2 HM4.out
  go_wp2_with (first
   | (go_at_call 38
      with_reducible refine (SS.out _ NM LM A B c d HB4.out E1.out E2.out HN4.out HL4.out).mono ?_
      rintro e w5 ⟨rfl, hb2⟩
      have HB5 := Lib.hid (below_step HB4.out hb2)
      have HX5 := Lib.hid (HX4.out.call hb2)
      obtain ⟨y0, y1⟩ := blk2 HX5.out
      have HO5 := Lib.hid (HO4.out.call hb2)
      obtain ⟨o0, o1⟩ := blk2 HO5.out
      have HM5 := Lib.hid (HM4.out.call hb2)
      obtain ⟨m0, m1_⟩ := blk2 HM5.out
      clear hb2)
   | (go_at_call 18
      with_reducible refine (SV.out _ HB5.out).mono ?_
      rintro e w6 ⟨rfl, hb2⟩
      have HB6 := Lib.hid (below_step HB5.out hb2)
      have HX6 := Lib.hid (HX5.out.call hb2)
      obtain ⟨y0, y1⟩ := blk2 HX6.out
      have HO6 := Lib.hid (HO5.out.call hb2)
      obtain ⟨o0, o1⟩ := blk2 HO6.out
      have HM6 := Lib.hid (HM5.out.call hb2)
      obtain ⟨m0, m1_⟩ := blk2 HM6.out
      clear hb2)
   | (go_at_call 38
      with_reducible refine (SZ.out _).mono ?_
      rintro e w7 ⟨rfl, hb2⟩
      have HB7 := Lib.hid (below_step HB6.out hb2)
      clear hb2))
  go_ret
  exact ⟨rfl, HB7.out⟩
 rw [boolOf_true hP] at SV
 have HP := Lib.hid hP
 have SF : Hid (∀ w', Below w.heap.size w w' → Calls Tryz.prog 35 #[.agg #[.slice NA n nc, .slice LA m lc], .string s] w' fun e w'' => e = .returned (.int .i64 (fnd K.Nm m s)) ∧ Below w'.heap.size w' w'') := fun w' hb => r_link NA LA n nc m lc K s w' HZ.out.m2 (HK.out.below (Nat.le_refl _) hb)
 by_cases hneg : fnd K.Nm m s < 0
 case pos =>
  have SR : Hid (∀ w', Below w.heap.size w w' → Calls Tryz.prog 40 #[.agg #[.slice NA n nc, .slice LA m lc], .string s] w' fun e w'' => e = .returned (.tuple #[.agg #[.slice none 0 0, .slice none 0 0], .int .i64 9]) ∧ Below w'.heap.size w' w'') := fun w' hb => by
   refine (tnremove NA LA n nc m lc D K s HZ.out w' (HD.out.below (Nat.le_refl _) hb) (HK.out.below (Nat.le_refl _) hb)).mono ?_
   rintro e w'' (⟨h, _⟩ | ⟨_, _, h1, h2⟩ | ⟨_, i, _, h, _⟩)
   · exact absurd hP h
   · exact ⟨h1, h2⟩
   · omega
  generalize fnd K.Nm m s = q at SF hneg
  have t1 : decide (q < 0) = true := decide_eq_true hneg
  clear hP hneg
  go_upto_region 6 with (first
   | (go_at_call 15
      with_reducible refine (SL.out).mono ?_
      rintro e w2 ⟨rfl, hb2⟩
      have HB2 := Lib.hid (below_step HB1.out hb2)
      have HX2 := Lib.hid (HBB.out.call hb2)
      obtain ⟨y0, y1⟩ := blk2 HX2.out
      clear hb2)
   | (go_at_call 39
      with_reducible refine (SC.out _ HB2.out).mono ?_
      rintro e wa ⟨NM, LM, A, B, c, d, rfl, e1, e2, hnd, hlk, hb2⟩
      have HBa := Lib.hid (below_step HB2.out hb2)
      have HXa := Lib.hid (HX2.out.call hb2)
      have HNa := Lib.hid hnd
      have HLa := Lib.hid hlk
      have E1 := Lib.hid e1
      have E2 := Lib.hid e2
      clear hnd hlk e1 e2 hb2))
  have hal : Below wa.heap.size wa (wa.alloc (Obj.cells #[.slice A n c, .slice B m d] 25)) := (Below.refl _ wa).alloc (Nat.le_refl _) _
  have HO3 : Hid (Blk (wa.alloc (Obj.cells #[.slice A n c, .slice B m d] 25)) wa.heap.size 25 #[.slice A n c, .slice B m d]) := Blk.new _ _ _
  have HB3 := Lib.hid (below_step HBa.out hal)
  have HX3 := Lib.hid (HXa.out.call hal)
  have HN3 := Lib.hid (HNa.out.below (Nat.le_refl _) hal)
  have HL3 := Lib.hid (HLa.out.below (Nat.le_refl _) hal)
  clear hal HBa HXa HNa HLa
  generalize wa.alloc (Obj.cells #[.slice A n c, .slice B m d] 25) = w3 at HO3 HB3 HX3 HN3 HL3 ⊢
  generalize wa.heap.size = GO at HO3 ⊢
  obtain ⟨y0, y1⟩ := blk2 HX3.out
  go_upto_region 7 with (first
   | (go_at_call 40
      with_reducible refine (SR.out _ HB3.out).mono ?_
      rintro e wb ⟨rfl, hb2⟩
      have HBb := Lib.hid (below_step HB3.out hb2)
      have HXb := Lib.hid (HX3.out.call hb2)
      have HOb := Lib.hid (HO3.out.call hb2)
      have HNb := Lib.hid (HN3.out.below (Nat.le_refl _) hb2)
      have HLb := Lib.hid (HL3.out.below (Nat.le_refl _) hb2)
      clear hb2))
  have hal : Below wb.heap.size wb (wb.alloc (Obj.cells #[.slice none 0 0, .slice none 0 0] 25)) := (Below.refl _ wb).alloc (Nat.le_refl _) _
  have HM4 : Hid (Blk (wb.alloc (Obj.cells #[.slice none 0 0, .slice none 0 0] 25)) wb.heap.size 25 #[.slice none 0 0, .slice none 0 0]) := Blk.new _ _ _
  have HB4 := Lib.hid (below_step HBb.out hal)
  have HX4 := Lib.hid (HXb.out.call hal)
  have HO4 := Lib.hid (HOb.out.call hal)
  have HN4 := Lib.hid (HNb.out.below (Nat.le_refl _) hal)
  have HL4 := Lib.hid (HLb.out.below (Nat.le_refl _) hal)
  clear hal HBb HXb HOb HNb HLb
  generalize wb.alloc (Obj.cells #[.slice none 0 0, .slice none 0 0] 25) = w4 at HM4 HB4 HX4 HO4 HN4 HL4 ⊢
  generalize wb.heap.size = GM at HM4 ⊢
  obtain ⟨y0, y1⟩ := blk2 HX4.out
  obtain ⟨o0, o1⟩ := blk2 HO4.out
  obtain ⟨m0, m1_⟩ := blk2 HM4.out
  go_wp2_with (first
   | (go_at_call 38
      with_reducible refine (SS.out _ NM LM A B c d HB4.out E1.out E2.out HN4.out HL4.out).mono ?_
      rintro e w5 ⟨rfl, hb2⟩
      have HB5 := Lib.hid (below_step HB4.out hb2)
      have HX5 := Lib.hid (HX4.out.call hb2)
      obtain ⟨y0, y1⟩ := blk2 HX5.out
      have HO5 := Lib.hid (HO4.out.call hb2)
      obtain ⟨o0, o1⟩ := blk2 HO5.out
      have HM5 := Lib.hid (HM4.out.call hb2)
      obtain ⟨m0, m1_⟩ := blk2 HM5.out
      clear hb2)
   | (go_at_call 18
      with_reducible refine (SV.out _ HB5.out).mono ?_
      rintro e w6 ⟨rfl, hb2⟩
      have HB6 := Lib.hid (below_step HB5.out hb2)
      have HX6 := Lib.hid (HX5.out.call hb2)
      obtain ⟨y0, y1⟩ := blk2 HX6.out
      have HO6 := Lib.hid (HO5.out.call hb2)
      obtain ⟨o0, o1⟩ := blk2 HO6.out
      have HM6 := Lib.hid (HM5.out.call hb2)
      obtain ⟨m0, m1_⟩ := blk2 HM6.out
      clear hb2)
   | (go_at_call 35
      with_reducible refine (SF.out _ HB6.out).mono ?_
      rintro e w7 ⟨rfl, hb2⟩
      have HB7 := Lib.hid (below_step HB6.out hb2)
      have HX7 := Lib.hid (HX6.out.call hb2)
      obtain ⟨y0, y1⟩ := blk2 HX7.out
      have HO7 := Lib.hid (HO6.out.call hb2)
      obtain ⟨o0, o1⟩ := blk2 HO7.out
      have HM7 := Lib.hid (HM6.out.call hb2)
      obtain ⟨m0, m1_⟩ := blk2 HM7.out
      clear hb2)
   | (go_at_call 38
      with_reducible refine (SZ.out _).mono ?_
      rintro e w8 ⟨rfl, hb2⟩
      have HB8 := Lib.hid (below_step HB7.out hb2)
      clear hb2))
  go_ret
  exact ⟨rfl, HB8.out⟩
 obtain ⟨i, hi⟩ : ∃ i : Nat, fnd K.Nm m s = (i : Int) := ⟨(fnd K.Nm m s).toNat, by omega⟩
 have HIM : Hid (i < m) := by
  show i < m
  rcases fnd_bd K.Nm m s with h | ⟨k, hk, e, _⟩
  · omega
  · omega
 have SR : Hid (∀ w', Below w.heap.size w w' → Calls Tryz.prog 40 #[.agg #[.slice NA n nc, .slice LA m lc], .string s] w' fun e w'' => ∃ (NM : List Ndm) (LM : List Lkm) (A B : Option Addr) (c d : Nat), e = .returned (.tuple #[.agg #[.slice A n c, .slice B (m - 1) d], .int .i64 0]) ∧ ndx NM = recN D n ∧ lkx LM = cutL K i m ∧ NdIn w'' A n (ndsM NM) ∧ LkIn w'' B (m - 1) (lksM LM) ∧ Below w'.heap.size w' w'') := fun w' hb => by
  refine (tnremove NA LA n nc m lc D K s HZ.out w' (HD.out.below (Nat.le_refl _) hb) (HK.out.below (Nat.le_refl _) hb)).mono ?_
  rintro e w'' (⟨h, _⟩ | ⟨_, h, _⟩ | ⟨_, i', _, hi', u, rfl, hcp⟩)
  · exact absurd hP h
  · omega
  obtain rfl : i' = i := by omega
  obtain ⟨NM, LM, A, B, c, d, e1, e2, rfl, h1, h2, h3⟩ := hcp.read (by rw [recN_len]; exact HZ.out.n2) (by rw [cutL_len K HIM.out]; have := HZ.out.m2; omega)
  rw [recN_len] at h1 ⊢
  rw [cutL_len K HIM.out] at h2 ⊢
  exact ⟨NM, LM, A, B, c, d, rfl, e1, e2, h1, h2, h3⟩
 have SW : Hid (∀ w', Below w.heap.size w w' → Calls Tryz.prog 41 #[.agg #[.slice NA n nc, .slice LA m lc], .int .i64 (i : Int)] w' fun e w'' => ∃ (NM : List Ndm) (LM : List Lkm) (A B : Option Addr) (c d : Nat), e = .returned (.agg #[.slice A n c, .slice B (m - 1) d]) ∧ ndx NM = recN D n ∧ lkx LM = cutL K i m ∧ NdIn w'' A n (ndsM NM) ∧ LkIn w'' B (m - 1) (lksM LM) ∧ Below w'.heap.size w' w'') := fun w' hb => by
  refine (rwithout NA LA n nc m lc i D K w' HIM.out HZ.out.n2 HZ.out.m2 HSN.out HZ.out.kc (HD.out.below (Nat.le_refl _) hb) (HK.out.below (Nat.le_refl _) hb)).mono ?_
  rintro e w'' ⟨u, rfl, hcp⟩
  obtain ⟨NM, LM, A, B, c, d, e1, e2, rfl, h1, h2, h3⟩ := hcp.read (by rw [recN_len]; exact HZ.out.n2) (by rw [cutL_len K HIM.out]; have := HZ.out.m2; omega)
  rw [recN_len] at h1 ⊢
  rw [cutL_len K HIM.out] at h2 ⊢
  exact ⟨NM, LM, A, B, c, d, rfl, e1, e2, h1, h2, h3⟩
 have T1 : decide ((i : Int) < 0) = false := decide_eq_false (by omega)
 have HM1 : Hid (n ≤ 2000 ∧ m - 1 ≤ 2000) := ⟨HZ.out.n2, by have := HZ.out.m2; omega⟩
 obtain ⟨m1, hm1⟩ : ∃ z, m - 1 = z := ⟨_, rfl⟩
 have HCL : Hid ((cutL K i m).length = m1) := (cutL_len K HIM.out).trans hm1
 rw [hm1] at SR SW HM1
 rw [hi] at SF
 clear hP hneg hi hm1
 go_upto_region 6 with (first
  | (go_at_call 15
     with_reducible refine (SL.out).mono ?_
     rintro e w2 ⟨rfl, hb2⟩
     have HB2 := Lib.hid (below_step HB1.out hb2)
     have HX2 := Lib.hid (HBB.out.call hb2)
     obtain ⟨y0, y1⟩ := blk2 HX2.out
     clear hb2)
  | (go_at_call 39
     with_reducible refine (SC.out _ HB2.out).mono ?_
     rintro e wa ⟨NM, LM, A, B, c, d, rfl, e1, e2, hnd, hlk, hb2⟩
     have HBa := Lib.hid (below_step HB2.out hb2)
     have HXa := Lib.hid (HX2.out.call hb2)
     have HNa := Lib.hid hnd
     have HLa := Lib.hid hlk
     have E1 := Lib.hid e1
     have E2 := Lib.hid e2
     clear hnd hlk e1 e2 hb2))
 have hal : Below wa.heap.size wa (wa.alloc (Obj.cells #[.slice A n c, .slice B m d] 25)) := (Below.refl _ wa).alloc (Nat.le_refl _) _
 have HO3 : Hid (Blk (wa.alloc (Obj.cells #[.slice A n c, .slice B m d] 25)) wa.heap.size 25 #[.slice A n c, .slice B m d]) := Blk.new _ _ _
 have HB3 := Lib.hid (below_step HBa.out hal)
 have HX3 := Lib.hid (HXa.out.call hal)
 have HN3 := Lib.hid (HNa.out.below (Nat.le_refl _) hal)
 have HL3 := Lib.hid (HLa.out.below (Nat.le_refl _) hal)
 clear hal HBa HXa HNa HLa
 generalize wa.alloc (Obj.cells #[.slice A n c, .slice B m d] 25) = w3 at HO3 HB3 HX3 HN3 HL3 ⊢
 generalize wa.heap.size = GO at HO3 ⊢
 obtain ⟨y0, y1⟩ := blk2 HX3.out
 go_upto_region 7 with (first
  | (go_at_call 40
     with_reducible refine (SR.out _ HB3.out).mono ?_
     rintro e wb ⟨NM4, LM4, A4, B4, c4, d4, rfl, f1, f2, hnd, hlk, hb2⟩
     have HBb := Lib.hid (below_step HB3.out hb2)
     have HXb := Lib.hid (HX3.out.call hb2)
     have HOb := Lib.hid (HO3.out.call hb2)
     have HNb := Lib.hid (HN3.out.below (Nat.le_refl _) hb2)
     have HLb := Lib.hid (HL3.out.below (Nat.le_refl _) hb2)
     have HPb := Lib.hid hnd
     have HQb := Lib.hid hlk
     have F1 := Lib.hid f1
     have F2 := Lib.hid f2
     clear hnd hlk f1 f2
     clear hb2))
 have hal : Below wb.heap.size wb (wb.alloc (Obj.cells #[.slice A4 n c4, .slice B4 m1 d4] 25)) := (Below.refl _ wb).alloc (Nat.le_refl _) _
 have HM4 : Hid (Blk (wb.alloc (Obj.cells #[.slice A4 n c4, .slice B4 m1 d4] 25)) wb.heap.size 25 #[.slice A4 n c4, .slice B4 m1 d4]) := Blk.new _ _ _
 have HB4 := Lib.hid (below_step HBb.out hal)
 have HX4 := Lib.hid (HXb.out.call hal)
 have HO4 := Lib.hid (HOb.out.call hal)
 have HN4 := Lib.hid (HNb.out.below (Nat.le_refl _) hal)
 have HL4 := Lib.hid (HLb.out.below (Nat.le_refl _) hal)
 have HP4 := Lib.hid (HPb.out.below (Nat.le_refl _) hal)
 have HQ4 := Lib.hid (HQb.out.below (Nat.le_refl _) hal)
 clear HPb
 clear HQb
 clear hal HBb HXb HOb HNb HLb
 generalize wb.alloc (Obj.cells #[.slice A4 n c4, .slice B4 m1 d4] 25) = w4 at HM4 HB4 HX4 HO4 HN4 HL4 HP4 HQ4 ⊢
 generalize wb.heap.size = GM at HM4 ⊢
 obtain ⟨y0, y1⟩ := blk2 HX4.out
 obtain ⟨o0, o1⟩ := blk2 HO4.out
 obtain ⟨m0, m1_⟩ := blk2 HM4.out
 go_upto_region 14 with (first
  | (go_at_call 38
     with_reducible refine (SS.out _ NM LM A B c d HB4.out E1.out E2.out HN4.out HL4.out).mono ?_
     rintro e w5 ⟨rfl, hb2⟩
     have HB5 := Lib.hid (below_step HB4.out hb2)
     have HX5 := Lib.hid (HX4.out.call hb2)
     obtain ⟨y0, y1⟩ := blk2 HX5.out
     have HO5 := Lib.hid (HO4.out.call hb2)
     obtain ⟨o0, o1⟩ := blk2 HO5.out
     have HM5 := Lib.hid (HM4.out.call hb2)
     obtain ⟨m0, m1_⟩ := blk2 HM5.out
     have HP5 := Lib.hid (HP4.out.below (Nat.le_refl _) hb2)
     have HQ5 := Lib.hid (HQ4.out.below (Nat.le_refl _) hb2)
     clear hb2)
  | (go_at_call 18
     with_reducible refine (SV.out _ HB5.out).mono ?_
     rintro e w6 ⟨rfl, hb2⟩
     have HB6 := Lib.hid (below_step HB5.out hb2)
     have HX6 := Lib.hid (HX5.out.call hb2)
     obtain ⟨y0, y1⟩ := blk2 HX6.out
     have HO6 := Lib.hid (HO5.out.call hb2)
     obtain ⟨o0, o1⟩ := blk2 HO6.out
     have HM6 := Lib.hid (HM5.out.call hb2)
     obtain ⟨m0, m1_⟩ := blk2 HM6.out
     have HP6 := Lib.hid (HP5.out.below (Nat.le_refl _) hb2)
     have HQ6 := Lib.hid (HQ5.out.below (Nat.le_refl _) hb2)
     clear hb2)
  | (go_at_call 35
     with_reducible refine (SF.out _ HB6.out).mono ?_
     rintro e w7 ⟨rfl, hb2⟩
     have HB7 := Lib.hid (below_step HB6.out hb2)
     have HX7 := Lib.hid (HX6.out.call hb2)
     obtain ⟨y0, y1⟩ := blk2 HX7.out
     have HO7 := Lib.hid (HO6.out.call hb2)
     obtain ⟨o0, o1⟩ := blk2 HO7.out
     have HM7 := Lib.hid (HM6.out.call hb2)
     obtain ⟨m0, m1_⟩ := blk2 HM7.out
     have HP7 := Lib.hid (HP6.out.below (Nat.le_refl _) hb2)
     have HQ7 := Lib.hid (HQ6.out.below (Nat.le_refl _) hb2)
     clear hb2))
 have hs0 : w7.cell? ⟨w.heap.size, 0, none⟩ = some (.slice NA n nc) ∧ w7.cell? ⟨w.heap.size, 1, none⟩ = some (.slice LA m lc) ∧ w7.cell? ⟨GM, 0, none⟩ = some (.slice A4 n c4) ∧ w7.cell? ⟨GM, 1, none⟩ = some (.slice B4 m1 d4) := ⟨HX7.out.cell 0, HX7.out.cell 1, HM7.out.cell 0, HM7.out.cell 1⟩
 have HS : Hid (∀ w', Below w7.heap.size w7 w' → w'.cell? ⟨w.heap.size, 0, none⟩ = some (.slice NA n nc) ∧ w'.cell? ⟨w.heap.size, 1, none⟩ = some (.slice LA m lc) ∧ w'.cell? ⟨GM, 0, none⟩ = some (.slice A4 n c4) ∧ w'.cell? ⟨GM, 1, none⟩ = some (.slice B4 m1 d4)) := fun w' hb => ⟨(HX7.out.call hb).cell 0, (HX7.out.call hb).cell 1, (HM7.out.call hb).cell 0, (HM7.out.call hb).cell 1⟩
 have SW7 := Lib.hid fun w' (hb : Below w7.heap.size w7 w') => SW.out w' (below_step HB7.out hb)
 have HP8 := Lib.hid fun w' (hb : Below w7.heap.size w7 w') => HP7.out.below (Nat.le_refl _) hb
 have HQ8 := Lib.hid fun w' (hb : Below w7.heap.size w7 w') => HQ7.out.below (Nat.le_refl _) hb
 clear SW SC SS SR SV SF SL y0 y1 o0 o1 m0 m1_
 go_region_held3 (fun w' => w'.cell? ⟨w.heap.size, 0, none⟩ = some (.slice NA n nc) ∧ w'.cell? ⟨w.heap.size, 1, none⟩ = some (.slice LA m lc) ∧ w'.cell? ⟨GM, 0, none⟩ = some (.slice A4 n c4) ∧ w'.cell? ⟨GM, 1, none⟩ = some (.slice B4 m1 d4)) (first
  | exact hs0
  | exact HS.out _ hq9
  | exact HS.out _ hq8
  | exact HS.out _ hq9.drew
  | exact HS.out _ hq8.drew
  | exact HS.out _ (Below.refl w7.heap.size w7).drew) (first
  | (go_at_call 41
     with_reducible refine (SW7.out _ ?_).mono ?_
     focus (first | exact Below.refl w7.heap.size w7 | exact (Below.refl w7.heap.size w7).drew)
     rintro e w8 ⟨NM8, LM8, A8, B8, c8, d8, rfl, e1, e2, hnd, hlk, hb2⟩
     have hq8 : Below w7.heap.size w7 w8 := by first | exact hb2 | exact (Below.refl w7.heap.size w7).drew.trans hb2
     have HR8 := Lib.hid fun w' (hb : Below w8.heap.size w8 w') => hnd.below (Nat.le_refl _) hb
     have HS8 := Lib.hid fun w' (hb : Below w8.heap.size w8 w') => hlk.below (Nat.le_refl _) hb
     have G1 := Lib.hid e1
     have G2 := Lib.hid e2
     clear hnd hlk e1 e2 hb2)
  | (go_at_call 38
     with_reducible refine (same_copies (recN_len D n) HCL.out HM1.out.1 HM1.out.2 F1.out F2.out G1.out G2.out (HP8.out _ ?_) (HQ8.out _ ?_) (HR8.out _ ?_) (HS8.out _ ?_)).mono ?_
     focus (first | exact hq8 | exact hq8.drew)
     focus (first | exact hq8 | exact hq8.drew)
     focus (first | exact Below.refl _ _ | exact (Below.refl _ _).drew)
     focus (first | exact Below.refl _ _ | exact (Below.refl _ _).drew)
     rintro e w9 ⟨rfl, hb2⟩
     have hq9 : Below w7.heap.size w7 w9 := by first | exact hq8.trans (hb2.mono hq8.size) | exact hq8.drew.trans (hb2.mono hq8.size)
     have HQE := Lib.hid hq9
     clear hb2))
 all_goals
  go_wp2_with fail
  go_ret
  exact ⟨rfl, below_step HB7.out HQE.out⟩
end Go.Proofs.YtghefgifhebniaaGreatDoor

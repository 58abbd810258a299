/- NetworkValid. -/
import Derived.Test.YtghefgifhebniaaGreatDoorMgC
import Derived.Test.YtghefgifhebniaaGreatDoorNetW
import Derived.Test.YtghefgifhebniaaGreatDoorMgE
import Derived.Test.YtghefgifhebniaaGreatDoorMgA
import Derived.Test.YtghefgifhebniaaGreatDoorMgS
namespace Go.Proofs.YtghefgifhebniaaGreatDoor
open Go.RowKit Go.Sort
set_option linter.unusedVariables false
set_option linter.unusedSimpArgs false
set_option maxRecDepth 100000 in
set_option maxHeartbeats 16000000 in
theorem netvalid (NA LA NB LB : Option Addr) (n nc m lc n' nc' m' lc' : Nat) (D D' : Nds) (K K' : Lks) (w : World) (hD : NdIn w NA n D) (hK : LkIn w LA m K) (hD' : NdIn w NB n' D') (hK' : LkIn w LB m' K') (hE : Env w) :
 Calls Tryz.prog 8 #[.agg #[.slice NA n nc, .slice LA m lc], .agg #[.slice NB n' nc', .slice LB m' lc']] w fun e w' => e = .returned (.bool true) ∧ Below w.heap.size w w' := by
 have hal : Below w.heap.size w ((w.alloc (Obj.cells #[.slice NA n nc, .slice LA m lc] 25)).alloc (Obj.cells #[.slice NB n' nc', .slice LB m' lc'] 25)) := ((Below.refl _ w).alloc (Nat.le_refl _) _).alloc (by simp) _
 have HX : Hid (Blk ((w.alloc (Obj.cells #[.slice NA n nc, .slice LA m lc] 25)).alloc (Obj.cells #[.slice NB n' nc', .slice LB m' lc'] 25)) w.heap.size 25 #[.slice NA n nc, .slice LA m lc]) := (Blk.new _ _ _).alloc _
 have HY : Hid (Blk ((w.alloc (Obj.cells #[.slice NA n nc, .slice LA m lc] 25)).alloc (Obj.cells #[.slice NB n' nc', .slice LB m' lc'] 25)) (w.heap.size + 1) 25 #[.slice NB n' nc', .slice LB m' lc']) := by have h := Blk.new (w.alloc (Obj.cells #[.slice NA n nc, .slice LA m lc] 25)) 25 #[.slice NB n' nc', .slice LB m' lc']; simp at h; exact h
 have HAL := Lib.hid hal
 have HE0 := Lib.hid (hE.below hal)
 have HD := Lib.hid hD
 have HK := Lib.hid hK
 have HD' := Lib.hid hD'
 have HK' := Lib.hid hK'
 clear hD hK hD' hK' hE hal
 obtain ⟨V, hV⟩ : ∃ V, Hid (V = boolOf (lgP D n K m)) := ⟨_, rfl⟩
 obtain ⟨U, hU⟩ : ∃ U, Hid (U = boolOf (lgP D' n' K' m')) := ⟨_, rfl⟩
 go_enter Tryz.func8, Tryz.ntmps8
 go_upto_region 1 with fail
 generalize (w.alloc (Obj.cells #[.slice NA n nc, .slice LA m lc] 25)).alloc (Obj.cells #[.slice NB n' nc', .slice LB m' lc'] 25) = w0 at HX HY HAL HE0 ⊢
 go_upto_region 3 with (first
  | (go_at_call 14
     with_reducible refine (awake26 _ HE0.out).mono ?_
     rintro e w1 ⟨rfl, hb1⟩
     have HB1 := Lib.hid (below_step HAL.out hb1)
     have HX1 := Lib.hid (HX.out.call hb1)
     have HY1 := Lib.hid (HY.out.call hb1)
     clear hb1))
 obtain ⟨y0, y1⟩ := blk2 HX1.out
 obtain ⟨z0, z1⟩ := blk2 HY1.out
 have SL : Hid (∀ w', Below w.heap.size w w' → Calls Tryz.prog 15 #[.agg #[.slice NA n nc, .slice LA m lc]] w' fun e w'' => e = .returned (.bool V) ∧ Below w'.heap.size w' w'') := fun w' hb => by rw [hV.out]; exact tlarge NA LA n nc m lc D K w' (HD.out.below (Nat.le_refl _) hb) (HK.out.below (Nat.le_refl _) hb)
 have SM : Hid (∀ w', Below w.heap.size w w' → Calls Tryz.prog 15 #[.agg #[.slice NB n' nc', .slice LB m' lc']] w' fun e w'' => e = .returned (.bool U) ∧ Below w'.heap.size w' w'') := fun w' hb => by rw [hU.out]; exact tlarge NB LB n' nc' m' lc' D' K' w' (HD'.out.below (Nat.le_refl _) hb) (HK'.out.below (Nat.le_refl _) hb)
 by_cases hl : lgP D n K m
 · obtain rfl : V = true := hV.out.trans (boolOf_true hl)
   clear hl hV
   go_wp2_with (first
    | (go_at_call 15
       with_reducible refine (SL.out _ HB1.out).mono ?_
       rintro e w2 ⟨rfl, hb2⟩
       have HB2 := Lib.hid (below_step HB1.out hb2)
       clear hb2))
   go_ret
   exact ⟨rfl, HB2.out⟩
 obtain rfl : V = false := hV.out.trans (boolOf_false hl)
 have HZ := Lib.hid (lg_sz hl)
 clear hl hV
 by_cases hl : lgP D' n' K' m'
 · obtain rfl : U = true := hU.out.trans (boolOf_true hl)
   clear hl hU
   go_wp2_with (first
    | (go_at_call 15
       with_reducible refine (SL.out _ HB1.out).mono ?_
       rintro e w2 ⟨rfl, hb2⟩
       have HB2 := Lib.hid (below_step HB1.out hb2)
       obtain ⟨y0, y1⟩ := blk2 (HX1.out.call hb2)
       obtain ⟨z0, z1⟩ := blk2 (HY1.out.call hb2)
       clear hb2 SL)
    | (go_at_call 15
       with_reducible refine (SM.out _ HB2.out).mono ?_
       rintro e w3 ⟨rfl, hb2⟩
       have HB3 := Lib.hid (below_step HB2.out hb2)
       clear hb2))
   go_ret
   exact ⟨rfl, HB3.out⟩
 obtain rfl : U = false := hU.out.trans (boolOf_false hl)
 have HZ' := Lib.hid (lg_sz hl)
 clear hl hU
 obtain ⟨P, hP⟩ : ∃ P, boolOf (netP D n K m) = P := ⟨_, rfl⟩
 obtain ⟨Q, hQ⟩ : ∃ Q, boolOf (netS D n K m D' n' K' m') = Q := ⟨_, rfl⟩
 go_upto_region 5 with (first
  | (go_at_call 15
     with_reducible refine (SL.out _ HB1.out).mono ?_
     rintro e w2 ⟨rfl, hb2⟩
     have HB2 := Lib.hid (below_step HB1.out hb2)
     have HX2 := Lib.hid (HX1.out.call hb2)
     have HY2 := Lib.hid (HY1.out.call hb2)
     obtain ⟨y0, y1⟩ := blk2 HX2.out
     obtain ⟨z0, z1⟩ := blk2 HY2.out
     clear hb2 SL)
  | (go_at_call 15
     with_reducible refine (SM.out _ HB2.out).mono ?_
     rintro e w3 ⟨rfl, hb2⟩
     have HB3 := Lib.hid (below_step HB2.out hb2)
     have HX3 := Lib.hid (HX2.out.call hb2)
     have HY3 := Lib.hid (HY2.out.call hb2)
     clear hb2))
 have S1 : Hid (∀ w', Below w3.heap.size w3 w' → Calls Tryz.prog 36 #[.agg #[.slice NA n nc, .slice LA m lc]] w' fun e w'' => e = .returned (.bool P) ∧ Below w'.heap.size w' w'') := fun w' hb => by rw [← hP]; exact nvalid NA LA n nc m lc D K HZ.out w' (HD.out.below (Nat.le_refl _) (below_step HB3.out hb)) (HK.out.below (Nat.le_refl _) (below_step HB3.out hb))
 have S2 : Hid (∀ w', Below w3.heap.size w3 w' → Calls Tryz.prog 18 #[.agg #[.slice NA n nc, .slice LA m lc]] w' fun e w'' => e = .returned (.bool P) ∧ Below w'.heap.size w' w'') := fun w' hb => by rw [← hP]; exact wvalidN NA LA n nc m lc D K HZ.out w' (HD.out.below (Nat.le_refl _) (below_step HB3.out hb)) (HK.out.below (Nat.le_refl _) (below_step HB3.out hb))
 have S3 : Hid (∀ w', Below w3.heap.size w3 w' → Calls Tryz.prog 37 #[.agg #[.slice NA n nc, .slice LA m lc], .agg #[.slice NB n' nc', .slice LB m' lc']] w' fun e w'' => e = .returned (.bool Q) ∧ Below w'.heap.size w' w'') := fun w' hb => by rw [← hQ]; exact nsameNet NA LA NB LB n nc m lc n' nc' m' lc' D D' K K' w' HZ.out.n2 HZ.out.m2 (HD.out.below (Nat.le_refl _) (below_step HB3.out hb)) (HK.out.below (Nat.le_refl _) (below_step HB3.out hb)) (HD'.out.below (Nat.le_refl _) (below_step HB3.out hb)) (HK'.out.below (Nat.le_refl _) (below_step HB3.out hb))
 have S4 : Hid (∀ w', Below w3.heap.size w3 w' → Calls Tryz.prog 38 #[.agg #[.slice NA n nc, .slice LA m lc], .agg #[.slice NB n' nc', .slice LB m' lc']] w' fun e w'' => e = .returned (.bool Q) ∧ Below w'.heap.size w' w'') := fun w' hb => by rw [← hQ]; exact rsameNet NA LA NB LB n nc m lc n' nc' m' lc' D D' K K' w' HZ.out.n2 HZ.out.m2 (HD.out.below (Nat.le_refl _) (below_step HB3.out hb)) (HK.out.below (Nat.le_refl _) (below_step HB3.out hb)) (HD'.out.below (Nat.le_refl _) (below_step HB3.out hb)) (HK'.out.below (Nat.le_refl _) (below_step HB3.out hb))
 have S5 : Hid (∀ w', Below w3.heap.size w3 w' → Calls Tryz.prog 37 #[.agg #[.slice NA n nc, .slice LA m lc], .agg #[.slice NA n nc, .slice LA m lc]] w' fun e w'' => e = .returned (.bool true) ∧ Below w'.heap.size w' w'') := fun w' hb => by
  have h := nsameNet NA LA NA LA n nc m lc n nc m lc D D K K w' HZ.out.n2 HZ.out.m2 (HD.out.below (Nat.le_refl _) (below_step HB3.out hb)) (HK.out.below (Nat.le_refl _) (below_step HB3.out hb)) (HD.out.below (Nat.le_refl _) (below_step HB3.out hb)) (HK.out.below (Nat.le_refl _) (below_step HB3.out hb))
  have hr : netS D n K m D n K m := ⟨rfl, rfl⟩
  rw [boolOf_true hr] at h
  exact h
 have hs0 : w3.cell? ⟨w.heap.size, 0, none⟩ = some (.slice NA n nc) ∧ w3.cell? ⟨w.heap.size, 1, none⟩ = some (.slice LA m lc) ∧ w3.cell? ⟨w.heap.size + 1, 0, none⟩ = some (.slice NB n' nc') ∧ w3.cell? ⟨w.heap.size + 1, 1, none⟩ = some (.slice LB m' lc') := ⟨HX3.out.cell 0, HX3.out.cell 1, HY3.out.cell 0, HY3.out.cell 1⟩
 have HS : Hid (∀ w', Below w3.heap.size w3 w' → w'.cell? ⟨w.heap.size, 0, none⟩ = some (.slice NA n nc) ∧ w'.cell? ⟨w.heap.size, 1, none⟩ = some (.slice LA m lc) ∧ w'.cell? ⟨w.heap.size + 1, 0, none⟩ = some (.slice NB n' nc') ∧ w'.cell? ⟨w.heap.size + 1, 1, none⟩ = some (.slice LB m' lc')) := fun w' hb => ⟨(HX3.out.call hb).cell 0, (HX3.out.call hb).cell 1, (HY3.out.call hb).cell 0, (HY3.out.call hb).cell 1⟩
 clear SM y0 y1 z0 z1 hP hQ
 cases P <;> cases Q
 all_goals
  go_region_held3 (fun w' => w'.cell? ⟨w.heap.size, 0, none⟩ = some (.slice NA n nc) ∧ w'.cell? ⟨w.heap.size, 1, none⟩ = some (.slice LA m lc) ∧ w'.cell? ⟨w.heap.size + 1, 0, none⟩ = some (.slice NB n' nc') ∧ w'.cell? ⟨w.heap.size + 1, 1, none⟩ = some (.slice LB m' lc')) (first
   | exact hs0
   | exact HS.out _ hq8
   | exact HS.out _ hq7
   | exact HS.out _ hq6
   | exact HS.out _ hq5
   | exact HS.out _ hq4
   | exact HS.out _ hq8.drew
   | exact HS.out _ hq7.drew
   | exact HS.out _ hq6.drew
   | exact HS.out _ hq5.drew
   | exact HS.out _ hq4.drew
   | exact HS.out _ (Below.refl w3.heap.size w3).drew) (first
   | (go_at_call 36
      with_reducible refine (S1.out _ ?_).mono ?_
      focus (first | exact (Below.refl w3.heap.size w3) | exact (Below.refl w3.heap.size w3).drew)
      rintro e w4 ⟨rfl, hb2⟩
      have hq4 : Below w3.heap.size w3 w4 := by first | exact (Below.refl w3.heap.size w3).trans (hb2.mono (Below.refl w3.heap.size w3).size) | exact (Below.refl w3.heap.size w3).drew.trans (hb2.mono (Below.refl w3.heap.size w3).size)
      clear hb2 S1)
   | (go_at_call 18
      with_reducible refine (S2.out _ ?_).mono ?_
      focus (first | exact hq4 | exact hq4.drew)
      rintro e w5 ⟨rfl, hb2⟩
      have hq5 : Below w3.heap.size w3 w5 := by first | exact hq4.trans (hb2.mono hq4.size) | exact hq4.drew.trans (hb2.mono hq4.size)
      clear hb2 S2)
   | (go_at_call 37
      with_reducible refine (S3.out _ ?_).mono ?_
      focus (first | exact hq5 | exact hq5.drew)
      rintro e w6 ⟨rfl, hb2⟩
      have hq6 : Below w3.heap.size w3 w6 := by first | exact hq5.trans (hb2.mono hq5.size) | exact hq5.drew.trans (hb2.mono hq5.size)
      clear hb2 S3)
   | (go_at_call 38
      with_reducible refine (S4.out _ ?_).mono ?_
      focus (first | exact hq6 | exact hq6.drew)
      rintro e w7 ⟨rfl, hb2⟩
      have hq7 : Below w3.heap.size w3 w7 := by first | exact hq6.trans (hb2.mono hq6.size) | exact hq6.drew.trans (hb2.mono hq6.size)
      clear hb2 S4)
   | (go_at_call 37
      with_reducible refine (S5.out _ ?_).mono ?_
      focus (first | exact hq7 | exact hq7.drew)
      rintro e w8 ⟨rfl, hb2⟩
      have hq8 : Below w3.heap.size w3 w8 := by first | exact hq7.trans (hb2.mono hq7.size) | exact hq7.drew.trans (hb2.mono hq7.size)
      have HQE := Lib.hid hq8
      clear hb2 S5))
 all_goals
  go_wp2_with fail
  go_ret
  exact ⟨rfl, below_step HB3.out HQE.out⟩
end Go.Proofs.YtghefgifhebniaaGreatDoor

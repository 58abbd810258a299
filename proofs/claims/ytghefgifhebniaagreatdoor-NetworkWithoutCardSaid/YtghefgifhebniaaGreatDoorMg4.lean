/- Merged texts of these proofs: OpWt, LWt. -/
import Derived.Test.YtghefgifhebniaaGreatDoorRows
import Derived.Test.YtghefgifhebniaaGreatDoorStay
import Derived.Test.YtghefgifhebniaaGreatDoorEnv
import Derived.LaidMore
import Derived.Lay
import Derived.Stop.Joined
import Derived.Stop.LaidErr
import Derived.Lib.LaidTab
import Derived.Test.YtghefgifhebniaaGreatDoorMgC
import Derived.Test.YtghefgifhebniaaGreatDoorNetW
import Derived.Test.YtghefgifhebniaaGreatDoorMgE
import Derived.Test.YtghefgifhebniaaGreatDoorMgA
import Derived.Test.YtghefgifhebniaaGreatDoorMgS
import Derived.Test.YtghefgifhebniaaGreatDoorMg2
import Derived.Test.YtghefgifhebniaaGreatDoorMg3
namespace Go.Proofs.YtghefgifhebniaaGreatDoor.networkWithoutRow
open Go.Proofs.YtghefgifhebniaaGreatDoor Go.RowKit Go.WideShapes Go.ChangeShapes Go.ChangeAt Go.Deep Go.Joins
set_option linter.unusedVariables false
set_option linter.unusedSimpArgs false
theorem star_es : "*" ++ "errors.errorString" = "*errors.errorString" := by decide
theorem row_es (u : TypeId) (h : Tryz.prog.typeName? 3 u = some "*errors.errorString") : u = 238 :=
 typeName_ptr_named (nm := "errors.errorString") (by rw [star_es]; kernel_rfl) (by kernel_rfl) (by decide) u (by rw [star_es]; exact h)
set_option maxRecDepth 100000 in
theorem env_of_laid {W : World} (h : laidMetH Tryz.prog Rows.networkWithoutRow.laid W) : Env W := by
 rw [MakeChecks.laidMetH_plain _ _ _ (by kernel_rfl)] at h
 have h3 : laidMet Tryz.prog (("internal/strconv.uint64pow10", Lib.tabData .u64 Lib.pow10Tab) :: [("unicode/utf8.acceptRanges", Rows.laid_unicode_utf8_acceptRanges), ("strconv.ErrRange", Rows.laid_strconv_ErrRange), ("strconv.ErrSyntax", Rows.laid_strconv_ErrSyntax), ("unicode/utf8.first", Rows.laid_unicode_utf8_first)]) W := (h.tail).tail
 have ht := Lib.tabIs_of_head (g := 5) (t := 242) (e := 204) (n := 20) (by kernel_rfl) (by kernel_rfl) Tryz.underlying242 Tryz.underlying204 (by kernel_rfl) (by kernel_rfl) h3
 obtain ⟨a1, s1, hv1, _⟩ := laid_sentinel h3.tail.tail (g := 4) (ti := 116) (tp := 238) (te := 240) (ts := 9) (by kernel_rfl) (by kernel_rfl) Tryz.underlying116 row_es Tryz.underlying238 Tryz.underlying240 rfl rfl Tryz.underlying9 (by kernel_rfl) (by kernel_rfl)
 obtain ⟨a2, s2, hv2, _⟩ := laid_sentinel h3.tail.tail.tail (g := 3) (ti := 116) (tp := 238) (te := 240) (ts := 9) (by kernel_rfl) (by kernel_rfl) Tryz.underlying116 row_es Tryz.underlying238 Tryz.underlying240 rfl rfl Tryz.underlying9 (by kernel_rfl) (by kernel_rfl)
 exact ⟨ht, ⟨_, _, hv2⟩, ⟨_, _, hv1⟩⟩
theorem door_met (os : Os) (args : Array Value) : laidMetH Tryz.prog Rows.networkWithoutRow.laid ((World.laidAll Tryz.prog os Rows.networkWithoutRow.laid).forCall (fun _ _ => 0) ⟨#[], args, []⟩).memory := by
 rw [MakeChecks.laidMetH_plain _ _ _ (by kernel_rfl)]
 exact laidMet_laidAll _ (by kernel_rfl) (by kernel_rfl)
end Go.Proofs.YtghefgifhebniaaGreatDoor.networkWithoutRow
namespace Go.Proofs.YtghefgifhebniaaGreatDoor
open Go.RowKit Go.Sort
set_option linter.unusedVariables false
set_option linter.unusedSimpArgs false
set_option maxRecDepth 100000 in
set_option maxHeartbeats 8000000 in
theorem eqf_w (NA NB : Option Addr) (n n' c c' : Nat) (D D' : Nds) (w : World) (h2 : n ≤ 2000) (hA : NdIn w NA n D) (hB : NdIn w NB n' D') :
 Calls Tryz.prog 42 #[.slice NA n c, .slice NB n' c', .func (.func 43) #[] #[]] w fun e w' => e = .returned (.bool (boolOf (recN D n = recN D' n'))) ∧ Below w.heap.size w w' := by
 have HA := Lib.hid hA
 have HB := Lib.hid hB
 have H2 := Lib.hid h2
 obtain ⟨f, hf⟩ : ∃ f, Hid (f = boolOf (recN D n = recN D' n')) := ⟨_, rfl⟩
 rw [← hf.out]
 by_cases hnm : n = n'
 case neg =>
  obtain rfl : f = false := by rw [hf.out]; exact boolOf_false fun h => hnm (recN_eq.1 h).1
  have t1 : (n == n') = false := by simpa using hnm
  have t2 : (n != n') = true := by simpa using hnm
  have t3 : ((n : Int) == (n' : Int)) = false := by rw [beq_eq_false_iff_ne]; omega
  have t4 : ((n : Int) != (n' : Int)) = true := by simp; omega
  clear hA hB hnm hf
  go_enter Tryz.func42, Tryz.ntmps42
  go_wp2_with fail
  go_ret
  exact ⟨rfl, Below.refl _ _⟩
 case pos =>
 subst hnm
 clear hA hB
 go_enter Tryz.func42, Tryz.ntmps42
 go_wp2_with fail
 go_loopw [17] (fun u wr => ∃ i : Nat, Hid (i ≤ n) ∧ u = .int .i64 i ∧ Hid (∀ j, j < i → ndrOf D j = ndrOf D' j) ∧ Hid (Below w.heap.size w wr)) (fun u _ => n - (RowKit.intOf u).toNat)
 case atStart => exact ⟨0, Nat.zero_le _, rfl, fun j hj => absurd hj (Nat.not_lt_zero _), Below.refl _ _⟩
 case round =>
  obtain ⟨i, Hi, rfl, HG, HW⟩ := hrel
  by_cases hlt : i < n
  · have T0 : decide ((i : Int) < (n : Int)) = true := by simp <;> omega
    have T0' : decide (i < n) = true := decide_eq_true hlt
    obtain ⟨i', hi'⟩ : ∃ z, z = i + 1 := ⟨_, rfl⟩
    have x0 : IntKind.i64.wrap ((i : Int) + 1) = (i' : Int) := by have := H2.out; rw [IntKind.wrap_i64]; omega
    have HI' : Hid (i' ≤ n ∧ i' = i + 1) := ⟨by omega, hi'⟩
    have HMS : Hid (n - (RowKit.intOf (Value.int .i64 (i' : Int))).toNat < n - (RowKit.intOf (Value.int .i64 (i : Int))).toNat) := by show _ < _; simp [RowKit.intOf]; omega
    have k0 : (0 : Int) ≤ (i : Int) := by omega
    have k1 : (i : Int) < (n : Int) := by omega
    have HLT := Lib.hid hlt
    obtain ⟨b1, o1, rfl, hb1, hC1, ht1⟩ := (HA.out.below (Nat.le_refl _) HW.out).at hlt
    obtain ⟨b2, o2, rfl, hb2, hC2, ht2⟩ := (HB.out.below (Nat.le_refl _) HW.out).at hlt
    have HT1 := Lib.hid ht1
    have HT2 := Lib.hid ht2
    have p0 := hC1 0 _ rfl
    have q0 := hC2 0 _ rfl
    have p1 := hC1 1 _ rfl
    have q1 := hC2 1 _ rfl
    have p2 := hC1 2 _ rfl
    have q2 := hC2 2 _ rfl
    have p3 := hC1 3 _ rfl
    have q3 := hC2 3 _ rfl
    have p4 := hC1 4 _ rfl
    have q4 := hC2 4 _ rfl
    have p5 := hC1 5 _ rfl
    have q5 := hC2 5 _ rfl
    have p6 := hC1 6 _ rfl
    have q6 := hC2 6 _ rfl
    have p7 := hC1 7 _ rfl
    have q7 := hC2 7 _ rfl
    have p8 := hC1 8 _ rfl
    have q8 := hC2 8 _ rfl
    simp only [Nat.add_zero] at p0 q0
    clear hi' hlt hC1 hC2 ht1 ht2
    go_upto_region 7 with fail
    have hal : Below wr.heap.size wr ((wr.alloc (Obj.cells (ndA D i) 55)).alloc (Obj.cells (ndA D' i) 55)) := ((Below.refl _ wr).alloc (Nat.le_refl _) _).alloc (by simp) _
    have HX1 : Hid (Blk ((wr.alloc (Obj.cells (ndA D i) 55)).alloc (Obj.cells (ndA D' i) 55)) wr.heap.size 55 (ndA D i)) := (Blk.new _ _ _).alloc _
    have HX2 : Hid (Blk ((wr.alloc (Obj.cells (ndA D i) 55)).alloc (Obj.cells (ndA D' i) 55)) (wr.heap.size + 1) 55 (ndA D' i)) := by have h := Blk.new (wr.alloc (Obj.cells (ndA D i) 55)) 55 (ndA D' i); simp at h; exact h
    have HS : Hid (Calls Tryz.prog 43 #[.agg (ndA D i), .agg (ndA D' i)] ((wr.alloc (Obj.cells (ndA D i) 55)).alloc (Obj.cells (ndA D' i) 55)) fun e w' => e = .returned (.bool (boolOf (ndrOf D i = ndrOf D' i))) ∧ Below ((wr.alloc (Obj.cells (ndA D i) 55)).alloc (Obj.cells (ndA D' i) 55)).heap.size ((wr.alloc (Obj.cells (ndA D i) 55)).alloc (Obj.cells (ndA D' i) 55)) w') := same_r D D' i i _ (HT1.out.below (Nat.le_refl _) hal) (HT2.out.below (Nat.le_refl _) hal)
    have HAL := Lib.hid hal
    clear hal p0 q0 p1 q1 p2 q2 p3 q3 p4 q4 p5 q5 p6 q6 p7 q7 p8 q8 hb1 hb2
    unfold ndA at HX1 HX2 HS HAL
    generalize (wr.alloc (Obj.cells _ 55)).alloc (Obj.cells _ 55) = w5 at HX1 HX2 HS HAL ⊢
    obtain ⟨a0_, a1_, a2_, a3_, a4_, a5_, a6_, a7_, a8_⟩ := blk9 HX1.out
    obtain ⟨b0_, b1_, b2_, b3_, b4_, b5_, b6_, b7_, b8_⟩ := blk9 HX2.out
    have HST : Hid (ndrOf D i = ndrOf D' i → ∀ j, j < i' → ndrOf D j = ndrOf D' j) := fun h j hj => by
        rcases Nat.lt_or_ge j i with g | g
        · exact HG.out j g
        · have : j = i := by have := HI'.out.2; omega
          rw [this]; exact h
    have HNO : Hid (¬ (ndrOf D i = ndrOf D' i) → f = false) := fun h => by
        rw [hf.out]; exact boolOf_false fun g => h ((recN_eq.1 g).2 i HLT.out)
    by_cases hq : ndrOf D i = ndrOf D' i
    · rw [boolOf_true hq] at HS
      have HQ := Lib.hid (HST.out hq)
      clear hq HST HNO
      go_wp2_with (first
       | (go_at_call 43
          with_reducible refine HS.out.mono ?_
          rintro e w6 ⟨rfl, hb6⟩
          have HB6 := Lib.hid (below_step HW.out (below_step HAL.out hb6))
          clear hb6))
      go_roundw
      case rel => exact ⟨i', HI'.out.1, rfl, HQ, HB6⟩
      case measure => exact HMS.out
    · rw [boolOf_false hq] at HS
      obtain rfl : f = false := HNO.out hq
      clear hq HST HNO
      go_wp2_with (first
       | (go_at_call 43
          with_reducible refine HS.out.mono ?_
          rintro e w6 ⟨rfl, hb6⟩
          have HB6 := Lib.hid (below_step HW.out (below_step HAL.out hb6))
          clear hb6))
      go_ret
      exact ⟨rfl, HB6.out⟩
  · have hin : i = n := by have := Hi.out; omega
    have T0 : decide ((i : Int) < (n : Int)) = false := by simp <;> omega
    have T0' : decide (i < n) = false := decide_eq_false hlt
    obtain rfl : f = true := by rw [hf.out]; exact boolOf_true (recN_eq.2 ⟨rfl, by rw [← hin]; exact HG.out⟩)
    clear hlt hin
    go_wp2_with fail
    go_ret
    exact ⟨rfl, HW.out⟩
theorem recN_c {NM : List Ndm} {N : List Ndr} {n : Nat} (h : ndx NM = N) (hl : N.length = n) : recN (ndsM NM) n = N := by
 have l : NM.length = n := by rw [← hl, ← h]; simp [ndx]
 rw [← l, ndsM_rec, h]
theorem recL_c {LM : List Lkm} {L : List Lkr} {m : Nat} (h : lkx LM = L) (hl : L.length = m) : recL (lksM LM) m = L := by
 have l : LM.length = m := by rw [← hl, ← h]; simp [lkx]
 rw [← l, lksM_rec, h]
structure CutF (D : Nds) (n : Nat) (K : Lks) (m j : Nat) (D' : Nds) (K' : Lks) (m1 : Nat) : Prop where
 net : netP D' n K' m1
 sz : NetSz D' n K' m1
 gone : fnd K'.Nm m1 (K.Nm j) < 0
 rec_ : recN D' n = recN D n
 nm : ∀ v, v < n → D'.Nm v = D.Nm v
 ed : ∀ k, k < m1 → ∃ i, i < m ∧ eX D n K i = eX D' n K' k ∧ eY D n K i = eY D' n K' k
theorem cut_facts {D : Nds} {K : Lks} {n m m1 j : Nat} {NM : List Ndm} {LM : List Lkm} (hp : netP D n K m) (hz : NetSz D n K m) (hj : j < m) (hm : m - 1 = m1) (e1 : ndx NM = recN D n) (e2 : lkx LM = cutL K j m) : CutF D n K m j (ndsM NM) (lksM LM) m1 := by
 have hN : recN (ndsM NM) n = recN D n := recN_c e1 (recN_len D n)
 have hL : recL (lksM LM) m1 = cutL K j m := recL_c e2 ((cutL_len K hj).trans hm)
 obtain ⟨_, hn⟩ := recN_eq.1 hN
 obtain ⟨_, hl⟩ := cut_at_ hj hL
 refine ⟨netP_cut hp hj hN hL, ?_, cut_gone hp hj hL, hN, fun v hv => nm_of (hn v hv), fun k hk => cut_edges hj hN hL k hk⟩
 refine ⟨hz.n2, by have := hz.m2; omega, fun i hi => ?_, fun i hi => ?_, fun i hi => ?_, fun i hi => ?_, fun i hi => ?_, fun i hi => ?_⟩
 · rw [nm_of (hn i hi)]; exact hz.nm i hi
 all_goals
  have hs : skp j i < m := skp_lt (by omega)
  obtain ⟨q1, q2, q3, q4, q5, q6, q7, q8, q9, q10, q11, q12⟩ := lkrOf_eq.1 (hl i hi)
 · rw [q1]; exact hz.kn _ hs
 · rw [q2]; exact hz.kf _ hs
 · rw [q3]; exact hz.kt _ hs
 · rw [q8]; exact hz.ks _ hs
 · rw [q11]; exact hz.kc _ hs
theorem w_below {NA LA : Option Addr} {n nc m lc v : Nat} {D : Nds} {K : Lks} {s : ByteArray} {w : World} (hz : NetSz D n K m) (hP : netP D n K m) (hv : v < n) (hs : D.Nm v = s) (hD : NdIn w NA n D) (hK : LkIn w LA m K) :
 Calls Tryz.prog 24 #[.agg #[.slice NA n nc, .slice LA m lc], .string s] w fun e w' => ∃ u, e = .returned (.tuple #[u, .int .i64 0]) ∧ w'.ownsRow w.heap.size 9 1 u (nmL D (wayB (eX D n K) (eY D n K) m (v : Int)) n).length (sc (nmL D (wayB (eX D n K) (eY D n K) m (v : Int)) n)) ∧ Below w.heap.size w w' := by
 refine (tnbelow NA LA n nc m lc D K s hz w hD hK).mono ?_
 have hf : fnd D.Nm n s = (v : Int) := by rw [← hs]; exact (hP.2.2.1 v hv).2
 rintro e w'' (⟨h, _⟩ | ⟨_, ⟨h, _⟩ | ⟨_, u, h1, h2⟩⟩)
 · exact absurd hP h
 · omega
 · rw [hf] at h2
   exact ⟨u, h1, h2.1, h2.2⟩
theorem w_order {NA LA : Option Addr} {n nc m lc : Nat} {D : Nds} {K : Lks} {w : World} (hz : NetSz D n K m) (hP : netP D n K m) (hD : NdIn w NA n D) (hK : LkIn w LA m K) :
 Calls Tryz.prog 17 #[.agg #[.slice NA n nc, .slice LA m lc]] w fun e w' => ∃ A N c, e = .returned (.tuple #[.slice A N c, .int .i64 (ordE n (eX D n K) (eY D n K) m)]) ∧ Below w.heap.size w w' := by
 refine (tnorder NA LA n nc m lc D K hz w hD hK).mono ?_
 rintro e w'' (⟨h, _⟩ | ⟨_, u, h1, h2, h3⟩)
 · exact absurd hP h
 · obtain ⟨A, c, rfl⟩ := nr_form h2
   exact ⟨A, _, c, h1, h3⟩
theorem w_valid {NA LA : Option Addr} {n nc m lc : Nat} {D : Nds} {K : Lks} {w : World} (hz : NetSz D n K m) (hP : netP D n K m) (hD : NdIn w NA n D) (hK : LkIn w LA m K) :
 Calls Tryz.prog 36 #[.agg #[.slice NA n nc, .slice LA m lc]] w fun e w' => e = .returned (.bool true) ∧ Below w.heap.size w w' := by
 have h := nvalid NA LA n nc m lc D K hz w hD hK
 rw [boolOf_true hP] at h
 exact h
theorem w_link {NA LA : Option Addr} {n nc m lc : Nat} {D : Nds} {K : Lks} {s : ByteArray} {w : World} (hz : NetSz D n K m) (hP : netP D n K m) (hs : fnd K.Nm m s < 0) (hD : NdIn w NA n D) (hK : LkIn w LA m K) :
 Calls Tryz.prog 33 #[.agg #[.slice NA n nc, .slice LA m lc], .string s] w fun e w' => e = .returned (.tuple #[.int .i64 0, .int .i64 9]) ∧ Below w.heap.size w w' := by
 have h := tnlink NA LA n nc m lc D K s hz w hD hK
 rw [boolOf_true hP, show findI true (fnd K.Nm m s) = 0 by unfold findI; simp [hs], show findE true (fnd K.Nm m s) = 9 by unfold findE; simp [hs]] at h
 exact h
theorem w_same {NA NB : Option Addr} {n c c' : Nat} {D D' : Nds} {w : World} (h2 : n ≤ 2000) (hr : recN D n = recN D' n) (hA : NdIn w NA n D) (hB : NdIn w NB n D') :
 Calls Tryz.prog 42 #[.slice NA n c, .slice NB n c', .func (.func 43) #[] #[]] w fun e w' => e = .returned (.bool true) ∧ Below w.heap.size w w' := by
 have h := eqf_w NA NB n n c c' D D' w h2 hA hB
 rw [boolOf_true hr] at h
 exact h
theorem w_less {D D' : Nds} {K K' : Lks} {n m j m1 v : Nat} (hF : CutF D n K m j D' K' m1) (s : ByteArray) (hs : s ∈ nmL D' (wayB (eX D' n K') (eY D' n K') m1 (v : Int)) n) : s ∈ nmL D (wayB (eX D n K) (eY D n K) m (v : Int)) n := by
 obtain ⟨u, hu, h1, h2⟩ := mem_nmL.1 hs
 refine mem_nmL.2 ⟨u, hu, wayB_iff.2 (wayP_less hF.ed (wayB_iff.1 h1)), by rw [← hF.nm u hu]; exact h2⟩
theorem w_ord {D D' : Nds} {K K' : Lks} {n m j m1 : Nat} (hF : CutF D n K m j D' K' m1) : ordE n (eX D n K) (eY D n K) m = 22 ∨ (ordE n (eX D n K) (eY D n K) m = 0 ∧ ordE n (eX D' n K') (eY D' n K') m1 = 0) := by
 by_cases h : (ordO n (eX D n K) (eY D n K) m).length < n
 · left; unfold ordE; rw [if_pos h]
 · right
   have h2 := ordO_less hF.ed h
   unfold ordE
   rw [if_neg h, if_neg h2]
   exact ⟨rfl, rfl⟩
set_option maxRecDepth 100000 in
set_option maxHeartbeats 8000000 in
theorem netwithout (NA LA : Option Addr) (n nc m lc : Nat) (D : Nds) (K : Lks) (i k : Nat) (hi : i ≤ 255) (hk : k ≤ 255) (w : World) (hD : NdIn w NA n D) (hK : LkIn w LA m K) (hE : Env w) :
 Calls Tryz.prog 10 #[.agg #[.slice NA n nc, .slice LA m lc], .int .u8 (i : Int), .int .u8 (k : Int)] w fun e w' => e = .returned (.bool true) ∧ Below w.heap.size w w' := by
 have hal : Below w.heap.size w (w.alloc (Obj.cells #[.slice NA n nc, .slice LA m lc] 25)) := (Below.refl _ w).alloc (Nat.le_refl _) _
 have HAL := Lib.hid hal
 have HB0 : Hid (Blk (w.alloc (Obj.cells #[.slice NA n nc, .slice LA m lc] 25)) w.heap.size 25 #[.slice NA n nc, .slice LA m lc]) := Blk.new _ _ _
 have HE0 := Lib.hid (hE.below hal)
 have HD := Lib.hid hD
 have HK := Lib.hid hK
 clear hD hK hE hal
 obtain ⟨V, hV⟩ : ∃ V, Hid (V = boolOf (lgP D n K m)) := ⟨_, rfl⟩
 go_enter Tryz.func10, Tryz.ntmps10
 go_upto_region 3 with (first
  | (go_at_call 14
     with_reducible refine (awake26 _ HE0.out).mono ?_
     rintro e w1 ⟨rfl, hb1⟩
     have HB1 := Lib.hid (below_step HAL.out hb1)
     have HBB := Lib.hid (HB0.out.call hb1)
     clear hb1))
 obtain ⟨y0, y1⟩ := blk2 HBB.out
 have SL : Hid (Calls Tryz.prog 15 #[.agg #[.slice NA n nc, .slice LA m lc]] w1 fun e w' => e = .returned (.bool V) ∧ Below w1.heap.size w1 w') := by rw [hV.out]; exact tlarge NA LA n nc m lc D K w1 (HD.out.below (Nat.le_refl _) HB1.out) (HK.out.below (Nat.le_refl _) HB1.out)
 by_cases hl : lgP D n K m
 · obtain rfl : V = true := hV.out.trans (boolOf_true hl)
   clear hl hV
   go_wp2_with (first
    | (go_at_call 15
       with_reducible refine SL.out.mono ?_
       rintro e w2 ⟨rfl, hb2⟩
       have HB2 := Lib.hid (below_step HB1.out hb2)
       clear hb2))
   go_ret
   exact ⟨rfl, HB2.out⟩
 obtain rfl : V = false := hV.out.trans (boolOf_false hl)
 have HZ := Lib.hid (lg_sz hl)
 clear hl hV
 have SV : Hid (∀ w', Below w.heap.size w w' → Calls Tryz.prog 18 #[.agg #[.slice NA n nc, .slice LA m lc]] w' fun e w'' => e = .returned (.bool (boolOf (netP D n K m))) ∧ Below w'.heap.size w' w'') := fun w' hb => wvalidN NA LA n nc m lc D K HZ.out w' (HD.out.below (Nat.le_refl _) hb) (HK.out.below (Nat.le_refl _) hb)
 by_cases hP : netP D n K m
 case neg =>
  rw [boolOf_false hP] at SV
  clear hP hi hk
  go_wp2_with (first
   | (go_at_call 15
      with_reducible refine (SL.out).mono ?_
      rintro e w2 ⟨rfl, hb2⟩
      have HB2 := Lib.hid (below_step HB1.out hb2)
      have HX2 := Lib.hid (HBB.out.call hb2)
      obtain ⟨y0, y1⟩ := blk2 HX2.out
      clear hb2)
   | (go_at_call 18
      with_reducible refine (SV.out _ HB2.out).mono ?_
      rintro e w3 ⟨rfl, hb2⟩
      have HB3 := Lib.hid (below_step HB2.out hb2)
      have HX3 := Lib.hid (HX2.out.call hb2)
      obtain ⟨y0, y1⟩ := blk2 HX3.out
      clear hb2))
  go_ret
  exact ⟨rfl, HB3.out⟩
 rw [boolOf_true hP] at SV
 have HP := Lib.hid hP
 by_cases hm0 : m = 0
 case pos =>
  subst hm0
  clear hP hi hk HP
  go_wp2_with (first
   | (go_at_call 15
      with_reducible refine (SL.out).mono ?_
      rintro e w2 ⟨rfl, hb2⟩
      have HB2 := Lib.hid (below_step HB1.out hb2)
      have HX2 := Lib.hid (HBB.out.call hb2)
      obtain ⟨y0, y1⟩ := blk2 HX2.out
      clear hb2)
   | (go_at_call 18
      with_reducible refine (SV.out _ HB2.out).mono ?_
      rintro e w3 ⟨rfl, hb2⟩
      have HB3 := Lib.hid (below_step HB2.out hb2)
      have HX3 := Lib.hid (HX2.out.call hb2)
      obtain ⟨y0, y1⟩ := blk2 HX3.out
      clear hb2))
  go_ret
  exact ⟨rfl, HB3.out⟩
 have hmp : 0 < m := by omega
 have hnp : 0 < n := by
  have h0 := (hP.2.2.2 0 hmp).2.2.1
  rcases fnd_bd D.Nm n (K.Fr 0) with h | ⟨q, hq, _, _⟩
  · omega
  · omega
 obtain ⟨j, hj⟩ : ∃ j : Nat, j = i % m := ⟨_, rfl⟩
 obtain ⟨v, hv⟩ : ∃ v : Nat, v = k % n := ⟨_, rfl⟩
 have Hj : Hid (j < m) := by show j < m; rw [hj]; exact Nat.mod_lt _ hmp
 have Hv : Hid (v < n) := by show v < n; rw [hv]; exact Nat.mod_lt _ hnp
 have E1j : Int.tmod (i : Int) (m : Int) = (j : Int) := by rw [hj]; exact Int.ofNat_tmod i m
 have E2j : IntKind.i64.wrap (i : Int) = (i : Int) := by rw [IntKind.wrap_i64]; omega
 have E3j : IntKind.i64.wrap (j : Int) = (j : Int) := by have := Hj.out; have := HZ.out.n2; have := HZ.out.m2; rw [IntKind.wrap_i64]; omega
 have N1j : ((m : Int) == 0) = false := by rw [beq_eq_false_iff_ne]; omega
 have N2j : (m == 0) = false := by rw [beq_eq_false_iff_ne]; omega
 have N3j : ¬ (m : Int) = 0 := by omega
 have N4j : ¬ m = 0 := by omega
 have A0j : (0 : Int) ≤ (j : Int) := by omega
 have A1j : (j : Int) < (m : Int) := by have := Hj.out; omega
 have E1v : Int.tmod (k : Int) (n : Int) = (v : Int) := by rw [hv]; exact Int.ofNat_tmod k n
 have E2v : IntKind.i64.wrap (k : Int) = (k : Int) := by rw [IntKind.wrap_i64]; omega
 have E3v : IntKind.i64.wrap (v : Int) = (v : Int) := by have := Hv.out; have := HZ.out.n2; have := HZ.out.m2; rw [IntKind.wrap_i64]; omega
 have N1v : ((n : Int) == 0) = false := by rw [beq_eq_false_iff_ne]; omega
 have N2v : (n == 0) = false := by rw [beq_eq_false_iff_ne]; omega
 have N3v : ¬ (n : Int) = 0 := by omega
 have N4v : ¬ n = 0 := by omega
 have A0v : (0 : Int) ≤ (v : Int) := by omega
 have A1v : (v : Int) < (n : Int) := by have := Hv.out; omega
 obtain ⟨m1, hm1⟩ : ∃ z, m - 1 = z := ⟨_, rfl⟩
 have X0 : IntKind.i64.wrap ((m : Int) - 1) = (m1 : Int) := by have := HZ.out.m2; rw [IntKind.wrap_i64]; omega
 have HM1 := Lib.hid hm1
 have SR : Hid (∀ w', Below w.heap.size w w' → Calls Tryz.prog 40 #[.agg #[.slice NA n nc, .slice LA m lc], .string (K.Nm j)] w' fun e w'' => ∃ (D' : Nds) (K' : Lks) (A B : Option Addr) (c d : Nat), e = .returned (.tuple #[.agg #[.slice A n c, .slice B m1 d], .int .i64 0]) ∧ CutF D n K m j D' K' m1 ∧ NdIn w'' A n D' ∧ LkIn w'' B m1 K' ∧ Below w'.heap.size w' w'') := fun w' hb => by
  refine (tnremove NA LA n nc m lc D K (K.Nm j) HZ.out w' (HD.out.below (Nat.le_refl _) hb) (HK.out.below (Nat.le_refl _) hb)).mono ?_
  have hf : fnd K.Nm m (K.Nm j) = (j : Int) := (HP.out.2.2.2 j Hj.out).2.1
  rintro e w'' (⟨h, _⟩ | ⟨_, h, _⟩ | ⟨_, j', _, hj', u, rfl, hcp⟩)
  · exact absurd HP.out h
  · omega
  obtain rfl : j' = j := by omega
  have hcl : (cutL K j' m).length = m1 := (cutL_len K Hj.out).trans HM1.out
  obtain ⟨NM, LM, A, B, c, d, e1, e2, rfl, h1, h2, h3⟩ := hcp.read (by rw [recN_len]; exact HZ.out.n2) (by rw [hcl]; have := HZ.out.m2; have := HM1.out; omega)
  rw [recN_len] at h1 ⊢
  rw [hcl] at h2 ⊢
  exact ⟨ndsM NM, lksM LM, A, B, c, d, rfl, cut_facts HP.out HZ.out Hj.out HM1.out e1 e2, h1, h2, h3⟩
 have SB : Hid (∀ w', Below w.heap.size w w' → Calls Tryz.prog 24 #[.agg #[.slice NA n nc, .slice LA m lc], .string (D.Nm v)] w' fun e w'' => ∃ u, e = .returned (.tuple #[u, .int .i64 0]) ∧ w''.ownsRow w'.heap.size 9 1 u (nmL D (wayB (eX D n K) (eY D n K) m (v : Int)) n).length (sc (nmL D (wayB (eX D n K) (eY D n K) m (v : Int)) n)) ∧ Below w'.heap.size w' w'') := fun w' hb => w_below HZ.out HP.out Hv.out rfl (HD.out.below (Nat.le_refl _) hb) (HK.out.below (Nat.le_refl _) hb)
 have SO : Hid (∀ w', Below w.heap.size w w' → Calls Tryz.prog 17 #[.agg #[.slice NA n nc, .slice LA m lc]] w' fun e w'' => ∃ A N c, e = .returned (.tuple #[.slice A N c, .int .i64 (ordE n (eX D n K) (eY D n K) m)]) ∧ Below w'.heap.size w' w'') := fun w' hb => w_order HZ.out HP.out (HD.out.below (Nat.le_refl _) hb) (HK.out.below (Nat.le_refl _) hb)
 have HN2 : Hid (n ≤ 2000) := HZ.out.n2
 have HGJ : Hid (∀ (D' : Nds) (K' : Lks), CutF D n K m j D' K' m1 → fnd K'.Nm m1 (K.Nm j) < 0) := fun D' K' h => h.gone
 have HNV : Hid (∀ (D' : Nds) (K' : Lks), CutF D n K m j D' K' m1 → D'.Nm v = D.Nm v) := fun D' K' h => h.nm v Hv.out
 have HLS : Hid (∀ (D' : Nds) (K' : Lks), CutF D n K m j D' K' m1 → ∀ s, s ∈ nmL D' (wayB (eX D' n K') (eY D' n K') m1 (v : Int)) n → s ∈ nmL D (wayB (eX D n K) (eY D n K) m (v : Int)) n) := fun D' K' h => w_less h
 have HOD : Hid (∀ (D' : Nds) (K' : Lks), CutF D n K m j D' K' m1 → ordE n (eX D n K) (eY D n K) m = 22 ∨ (ordE n (eX D n K) (eY D n K) m = 0 ∧ ordE n (eX D' n K') (eY D' n K') m1 = 0)) := fun D' K' h => w_ord h
 have HL1 : Hid (∀ (D : Nds) o, (nmL D o n).length ≤ 2000) := fun D o => by have := nmL_len D o n; have := HN2.out; omega
 obtain ⟨LA', hLA⟩ : ∃ L, nmL D (wayB (eX D n K) (eY D n K) m (v : Int)) n = L := ⟨_, rfl⟩
 have HLA : Hid (LA'.length ≤ 2000) := by rw [← hLA]; exact HL1.out _ _
 rw [hLA] at SB HLS
 obtain ⟨o1, ho1⟩ : ∃ z, ordE n (eX D n K) (eY D n K) m = z := ⟨_, rfl⟩
 rw [ho1] at SO HOD
 clear hLA ho1 hP hi hk hm0 hmp hnp hj hv hm1
 go_upto_region 5 with (first
  | (go_at_call 15
     with_reducible refine (SL.out).mono ?_
     rintro e w2 ⟨rfl, hb2⟩
     have HB2 := Lib.hid (below_step HB1.out hb2)
     have HX2 := Lib.hid (HBB.out.call hb2)
     obtain ⟨y0, y1⟩ := blk2 HX2.out
     clear hb2)
  | (go_at_call 18
     with_reducible refine (SV.out _ HB2.out).mono ?_
     rintro e w3 ⟨rfl, hb2⟩
     have HB3 := Lib.hid (below_step HB2.out hb2)
     have HX3 := Lib.hid (HX2.out.call hb2)
     obtain ⟨y0, y1⟩ := blk2 HX3.out
     clear hb2))
 obtain ⟨bn, on, hNA, hbn, hC, _⟩ := (HD.out.below (Nat.le_refl _) HB3.out).at Hv.out
 obtain ⟨bl, ol, hLA, hbl, hC', _⟩ := (HK.out.below (Nat.le_refl _) HB3.out).at Hj.out
 subst hNA hLA
 have c0 := hC 0 _ rfl
 have d0 := hC' 0 _ rfl
 simp only [Nat.add_zero] at c0 d0
 clear hC hC' hbn hbl
 obtain ⟨sv, hsv⟩ : ∃ z, D.Nm v = z := ⟨_, rfl⟩
 obtain ⟨sj, hsj⟩ : ∃ z, K.Nm j = z := ⟨_, rfl⟩
 rw [hsv] at c0 SB HNV
 rw [hsj] at d0 SR HGJ
 clear hsv hsj
 go_quiet (fail)
 have HBq : Hid (Below w.heap.size w (w3.drewN nq)) := below_drewN HB3.out _
 have HXq : Hid (Blk (w3.drewN nq) w.heap.size 25 #[.slice (some ⟨bn, on, none⟩) n nc, .slice (some ⟨bl, ol, none⟩) m lc]) := HX3.out.drewN _
 obtain ⟨y0, y1⟩ := blk2 HXq.out
 clear c0 d0 E1j E2j E3j N1j N2j N3j N4j A0j A1j E1v E2v E3v N1v N2v N3v N4v A0v A1v
 go_upto_region 7 with (first
  | (go_at_call 40
     with_reducible refine (SR.out _ HBq.out).mono ?_
     rintro e wb ⟨D', K', A, B, c, d, rfl, hcf, hnd, hlk, hb2⟩
     have HBb := Lib.hid (below_step HBq.out hb2)
     have HXb := Lib.hid (HXq.out.call hb2)
     have HF := Lib.hid hcf
     have HPb := Lib.hid hnd
     have HQb := Lib.hid hlk
     clear hcf hnd hlk hb2))
 have hal : Below wb.heap.size wb (wb.alloc (Obj.cells #[.slice A n c, .slice B m1 d] 25)) := (Below.refl _ wb).alloc (Nat.le_refl _) _
 have HM4 : Hid (Blk (wb.alloc (Obj.cells #[.slice A n c, .slice B m1 d] 25)) wb.heap.size 25 #[.slice A n c, .slice B m1 d]) := Blk.new _ _ _
 have HB4 := Lib.hid (below_step HBb.out hal)
 have HX4 := Lib.hid (HXb.out.call hal)
 have HP4 := Lib.hid (HPb.out.below (Nat.le_refl _) hal)
 have HQ4 := Lib.hid (HQb.out.below (Nat.le_refl _) hal)
 clear hal HBb HXb HPb HQb SR HBq HXq
 generalize wb.alloc (Obj.cells #[.slice A n c, .slice B m1 d] 25) = w4 at HM4 HB4 HX4 HP4 HQ4 ⊢
 generalize wb.heap.size = GM at HM4 ⊢
 obtain ⟨y0, y1⟩ := blk2 HX4.out
 obtain ⟨z0, z1⟩ := blk2 HM4.out
 have HGN := Lib.hid (HGJ.out D' K' HF.out)
 have HVN := Lib.hid (HNV.out D' K' HF.out)
 have HSB := Lib.hid (HLS.out D' K' HF.out)
 have HOR := Lib.hid (HOD.out D' K' HF.out)
 obtain ⟨LB', hLB⟩ : ∃ L, nmL D' (wayB (eX D' n K') (eY D' n K') m1 (v : Int)) n = L := ⟨_, rfl⟩
 obtain ⟨o2, ho2⟩ : ∃ z, ordE n (eX D' n K') (eY D' n K') m1 = z := ⟨_, rfl⟩
 have HLB : Hid (LB'.length ≤ 2000) := by rw [← hLB]; exact HL1.out _ _
 have SBm : Hid (∀ w', NdIn w' A n D' → LkIn w' B m1 K' → Calls Tryz.prog 24 #[.agg #[.slice A n c, .slice B m1 d], .string sv] w' fun e w'' => ∃ u, e = .returned (.tuple #[u, .int .i64 0]) ∧ w''.ownsRow w'.heap.size 9 1 u LB'.length (sc LB') ∧ Below w'.heap.size w' w'') := fun w' h1 h2 => by
  have h := w_below (nc := c) (lc := d) HF.out.sz HF.out.net Hv.out HVN.out h1 h2
  rw [hLB] at h
  exact h
 have SOm : Hid (∀ w', NdIn w' A n D' → LkIn w' B m1 K' → Calls Tryz.prog 17 #[.agg #[.slice A n c, .slice B m1 d]] w' fun e w'' => ∃ A N c, e = .returned (.tuple #[.slice A N c, .int .i64 o2]) ∧ Below w'.heap.size w' w'') := fun w' h1 h2 => by
  have h := w_order (nc := c) (lc := d) HF.out.sz HF.out.net h1 h2
  rw [ho2] at h
  exact h
 rw [hLB] at HSB
 rw [ho2] at HOR
 clear hLB ho2 HGJ HNV HLS HOD HL1
 go_upto_region 13 with (first
  | (go_at_call 36
     with_reducible refine (w_valid HF.out.sz HF.out.net HP4.out HQ4.out).mono ?_
     rintro e w5 ⟨rfl, hb2⟩
     have HB5 := Lib.hid (below_step HB4.out hb2)
     have HX5 := Lib.hid (HX4.out.call hb2)
     obtain ⟨y0, y1⟩ := blk2 HX5.out
     have HM5 := Lib.hid (HM4.out.call hb2)
     obtain ⟨z0, z1⟩ := blk2 HM5.out
     have HP5 := Lib.hid (HP4.out.below (Nat.le_refl _) hb2)
     have HQ5 := Lib.hid (HQ4.out.below (Nat.le_refl _) hb2)
     clear hb2)
  | (go_at_call 42
     with_reducible refine (w_same HN2.out HF.out.rec_ HP5.out (HD.out.below (Nat.le_refl _) HB5.out)).mono ?_
     rintro e w6 ⟨rfl, hb2⟩
     have HB6 := Lib.hid (below_step HB5.out hb2)
     have HX6 := Lib.hid (HX5.out.call hb2)
     obtain ⟨y0, y1⟩ := blk2 HX6.out
     have HM6 := Lib.hid (HM5.out.call hb2)
     obtain ⟨z0, z1⟩ := blk2 HM6.out
     have HP6 := Lib.hid (HP5.out.below (Nat.le_refl _) hb2)
     have HQ6 := Lib.hid (HQ5.out.below (Nat.le_refl _) hb2)
     clear hb2)
  | (go_at_call 33
     with_reducible refine (w_link HF.out.sz HF.out.net HGN.out HP6.out HQ6.out).mono ?_
     rintro e w7 ⟨rfl, hb2⟩
     have HB7 := Lib.hid (below_step HB6.out hb2)
     have HX7 := Lib.hid (HX6.out.call hb2)
     obtain ⟨y0, y1⟩ := blk2 HX7.out
     have HM7 := Lib.hid (HM6.out.call hb2)
     obtain ⟨z0, z1⟩ := blk2 HM7.out
     have HP7 := Lib.hid (HP6.out.below (Nat.le_refl _) hb2)
     have HQ7 := Lib.hid (HQ6.out.below (Nat.le_refl _) hb2)
     clear hb2)
  | (go_at_call 24
     with_reducible refine (SB.out _ HB7.out).mono ?_
     rintro e w8 ⟨u8, rfl, ho, hb2⟩
     have HB8 := Lib.hid (below_step HB7.out hb2)
     have HX8 := Lib.hid (HX7.out.call hb2)
     obtain ⟨y0, y1⟩ := blk2 HX8.out
     have HM8 := Lib.hid (HM7.out.call hb2)
     obtain ⟨z0, z1⟩ := blk2 HM8.out
     have HP8 := Lib.hid (HP7.out.below (Nat.le_refl _) hb2)
     have HQ8 := Lib.hid (HQ7.out.below (Nat.le_refl _) hb2)
     obtain ⟨A8, c8, rfl⟩ := nr_form ho
     have HO8 := Lib.hid ho
     clear ho
     clear hb2))
 have hal : Below w8.heap.size w8 (w8.alloc (Obj.cells #[.slice A8 LA'.length c8] 41)) := (Below.refl _ w8).alloc (Nat.le_refl _) _
 have HBX : Hid (Blk (w8.alloc (Obj.cells #[.slice A8 LA'.length c8] 41)) w8.heap.size 41 #[.slice A8 LA'.length c8]) := Blk.new _ _ _
 have HB9 := Lib.hid (below_step HB8.out hal)
 have HX9 := Lib.hid (HX8.out.call hal)
 have HM9 := Lib.hid (HM8.out.call hal)
 have HP9 := Lib.hid (HP8.out.below (Nat.le_refl _) hal)
 have HQ9 := Lib.hid (HQ8.out.below (Nat.le_refl _) hal)
 have HO9 := Lib.hid (own_below HO8.out hal)
 clear hal y0 y1 z0 z1
 generalize w8.alloc (Obj.cells #[.slice A8 LA'.length c8] 41) = w9 at HBX HB9 HX9 HM9 HP9 HQ9 HO9 ⊢
 generalize w8.heap.size = GA at HBX ⊢
 have HS9 : Hid (BoxS w9 GA LA') := ⟨HBX.out.lt, _, _, HBX.out.cell 0, HO9.out⟩
 obtain ⟨y0, y1⟩ := blk2 HX9.out
 obtain ⟨z0, z1⟩ := blk2 HM9.out
 have ho := HOR.out
 rcases ho with h1 | ⟨h1, h2⟩
 · subst h1
   go_wp2_with (first
    | (go_at_call 24
       with_reducible refine (SBm.out _ HP9.out HQ9.out).mono ?_
       rintro e w10 ⟨u10, rfl, ho, hb2⟩
       have HB10 := Lib.hid (below_step HB9.out hb2)
       have HX10 := Lib.hid (HX9.out.call hb2)
       obtain ⟨y0, y1⟩ := blk2 HX10.out
       have HM10 := Lib.hid (HM9.out.call hb2)
       obtain ⟨z0, z1⟩ := blk2 HM10.out
       have HP10 := Lib.hid (HP9.out.below (Nat.le_refl _) hb2)
       have HQ10 := Lib.hid (HQ9.out.below (Nat.le_refl _) hb2)
       obtain ⟨A10, c10, rfl⟩ := nr_form ho
       have HR10 := Lib.hid ho
       clear ho
       have HS10 := Lib.hid (HS9.out.below hb2)
       clear hb2)
    | (go_at_call 17
       with_reducible refine (SO.out _ HB10.out).mono ?_
       rintro e w11 ⟨A11, N11, c11, rfl, hb2⟩
       have HB11 := Lib.hid (below_step HB10.out hb2)
       have HX11 := Lib.hid (HX10.out.call hb2)
       obtain ⟨y0, y1⟩ := blk2 HX11.out
       have HM11 := Lib.hid (HM10.out.call hb2)
       obtain ⟨z0, z1⟩ := blk2 HM11.out
       have HP11 := Lib.hid (HP10.out.below (Nat.le_refl _) hb2)
       have HQ11 := Lib.hid (HQ10.out.below (Nat.le_refl _) hb2)
       clear SO
       have HS11 := Lib.hid (HS10.out.below hb2)
       have HR11 := Lib.hid (own_below HR10.out hb2)
       clear hb2)
    | (go_at_call 17
       with_reducible refine (SOm.out _ HP11.out HQ11.out).mono ?_
       rintro e w12 ⟨A12, N12, c12, rfl, hb2⟩
       have HB12 := Lib.hid (below_step HB11.out hb2)
       have HX12 := Lib.hid (HX11.out.call hb2)
       obtain ⟨y0, y1⟩ := blk2 HX12.out
       have HM12 := Lib.hid (HM11.out.call hb2)
       obtain ⟨z0, z1⟩ := blk2 HM12.out
       have HP12 := Lib.hid (HP11.out.below (Nat.le_refl _) hb2)
       have HQ12 := Lib.hid (HQ11.out.below (Nat.le_refl _) hb2)
       have HS12 := Lib.hid (HS11.out.below hb2)
       have HR12 := Lib.hid (own_below HR11.out hb2)
       clear hb2)
    | (go_at_call 30
       with_reducible refine (has_subW rfl HR12.out HLB.out HLA.out HS12.out HSB.out).mono ?_
       rintro e w13 ⟨rfl, hb13⟩
       have HW13 := Lib.hid (below_step HB12.out hb13)
       clear hb13))
   go_ret
   exact ⟨rfl, HW13.out⟩
 · subst h1 h2
   go_wp2_with (first
    | (go_at_call 24
       with_reducible refine (SBm.out _ HP9.out HQ9.out).mono ?_
       rintro e w10 ⟨u10, rfl, ho, hb2⟩
       have HB10 := Lib.hid (below_step HB9.out hb2)
       have HX10 := Lib.hid (HX9.out.call hb2)
       obtain ⟨y0, y1⟩ := blk2 HX10.out
       have HM10 := Lib.hid (HM9.out.call hb2)
       obtain ⟨z0, z1⟩ := blk2 HM10.out
       have HP10 := Lib.hid (HP9.out.below (Nat.le_refl _) hb2)
       have HQ10 := Lib.hid (HQ9.out.below (Nat.le_refl _) hb2)
       obtain ⟨A10, c10, rfl⟩ := nr_form ho
       have HR10 := Lib.hid ho
       clear ho
       have HS10 := Lib.hid (HS9.out.below hb2)
       clear hb2)
    | (go_at_call 17
       with_reducible refine (SO.out _ HB10.out).mono ?_
       rintro e w11 ⟨A11, N11, c11, rfl, hb2⟩
       have HB11 := Lib.hid (below_step HB10.out hb2)
       have HX11 := Lib.hid (HX10.out.call hb2)
       obtain ⟨y0, y1⟩ := blk2 HX11.out
       have HM11 := Lib.hid (HM10.out.call hb2)
       obtain ⟨z0, z1⟩ := blk2 HM11.out
       have HP11 := Lib.hid (HP10.out.below (Nat.le_refl _) hb2)
       have HQ11 := Lib.hid (HQ10.out.below (Nat.le_refl _) hb2)
       clear SO
       have HS11 := Lib.hid (HS10.out.below hb2)
       have HR11 := Lib.hid (own_below HR10.out hb2)
       clear hb2)
    | (go_at_call 17
       with_reducible refine (SOm.out _ HP11.out HQ11.out).mono ?_
       rintro e w12 ⟨A12, N12, c12, rfl, hb2⟩
       have HB12 := Lib.hid (below_step HB11.out hb2)
       have HX12 := Lib.hid (HX11.out.call hb2)
       obtain ⟨y0, y1⟩ := blk2 HX12.out
       have HM12 := Lib.hid (HM11.out.call hb2)
       obtain ⟨z0, z1⟩ := blk2 HM12.out
       have HP12 := Lib.hid (HP11.out.below (Nat.le_refl _) hb2)
       have HQ12 := Lib.hid (HQ11.out.below (Nat.le_refl _) hb2)
       have HS12 := Lib.hid (HS11.out.below hb2)
       have HR12 := Lib.hid (own_below HR11.out hb2)
       clear hb2)
    | (go_at_call 30
       with_reducible refine (has_subW rfl HR12.out HLB.out HLA.out HS12.out HSB.out).mono ?_
       rintro e w13 ⟨rfl, hb13⟩
       have HW13 := Lib.hid (below_step HB12.out hb13)
       clear hb13))
   go_ret
   exact ⟨rfl, HW13.out⟩
end Go.Proofs.YtghefgifhebniaaGreatDoor

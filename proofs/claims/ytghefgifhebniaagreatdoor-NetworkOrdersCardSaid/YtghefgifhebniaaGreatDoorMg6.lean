/- Merged texts of these proofs: OpOd, LOd. -/
import Derived.Test.YtghefgifhebniaaGreatDoorRows
import Derived.Test.YtghefgifhebniaaGreatDoorStay
import Derived.Test.YtghefgifhebniaaGreatDoorEnv
import Derived.LaidMore
import Derived.Lay
import Derived.Stop.Joined
import Derived.Stop.LaidErr
import Derived.Lib.LaidTab
import Derived.Test.YtghefgifhebniaaGreatDoorMgC
import Derived.Test.YtghefgifhebniaaGreatDoorNetW
import Derived.Test.YtghefgifhebniaaGreatDoorMgE
import Derived.Test.YtghefgifhebniaaGreatDoorMgA
import Derived.Test.YtghefgifhebniaaGreatDoorMg7
import Derived.Test.YtghefgifhebniaaGreatDoorMg5
namespace Go.Proofs.YtghefgifhebniaaGreatDoor.networkOrdersRow
open Go.Proofs.YtghefgifhebniaaGreatDoor Go.RowKit Go.WideShapes Go.ChangeShapes Go.ChangeAt Go.Deep Go.Joins
set_option linter.unusedVariables false
set_option linter.unusedSimpArgs false
theorem star_es : "*" ++ "errors.errorString" = "*errors.errorString" := by decide
theorem row_es (u : TypeId) (h : Tryz.prog.typeName? 3 u = some "*errors.errorString") : u = 238 :=
 typeName_ptr_named (nm := "errors.errorString") (by rw [star_es]; kernel_rfl) (by kernel_rfl) (by decide) u (by rw [star_es]; exact h)
set_option maxRecDepth 100000 in
theorem env_of_laid {W : World} (h : laidMetH Tryz.prog Rows.networkOrdersRow.laid W) : Env W := by
 rw [MakeChecks.laidMetH_plain _ _ _ (by kernel_rfl)] at h
 have h3 : laidMet Tryz.prog (("internal/strconv.uint64pow10", Lib.tabData .u64 Lib.pow10Tab) :: [("unicode/utf8.acceptRanges", Rows.laid_unicode_utf8_acceptRanges), ("strconv.ErrRange", Rows.laid_strconv_ErrRange), ("strconv.ErrSyntax", Rows.laid_strconv_ErrSyntax), ("unicode/utf8.first", Rows.laid_unicode_utf8_first)]) W := (h.tail).tail
 have ht := Lib.tabIs_of_head (g := 5) (t := 242) (e := 204) (n := 20) (by kernel_rfl) (by kernel_rfl) Tryz.underlying242 Tryz.underlying204 (by kernel_rfl) (by kernel_rfl) h3
 obtain ⟨a1, s1, hv1, _⟩ := laid_sentinel h3.tail.tail (g := 4) (ti := 116) (tp := 238) (te := 240) (ts := 9) (by kernel_rfl) (by kernel_rfl) Tryz.underlying116 row_es Tryz.underlying238 Tryz.underlying240 rfl rfl Tryz.underlying9 (by kernel_rfl) (by kernel_rfl)
 obtain ⟨a2, s2, hv2, _⟩ := laid_sentinel h3.tail.tail.tail (g := 3) (ti := 116) (tp := 238) (te := 240) (ts := 9) (by kernel_rfl) (by kernel_rfl) Tryz.underlying116 row_es Tryz.underlying238 Tryz.underlying240 rfl rfl Tryz.underlying9 (by kernel_rfl) (by kernel_rfl)
 exact ⟨ht, ⟨_, _, hv2⟩, ⟨_, _, hv1⟩⟩
theorem door_met (os : Os) (args : Array Value) : laidMetH Tryz.prog Rows.networkOrdersRow.laid ((World.laidAll Tryz.prog os Rows.networkOrdersRow.laid).forCall (fun _ _ => 0) ⟨#[], args, []⟩).memory := by
 rw [MakeChecks.laidMetH_plain _ _ _ (by kernel_rfl)]
 exact laidMet_laidAll _ (by kernel_rfl) (by kernel_rfl)
end Go.Proofs.YtghefgifhebniaaGreatDoor.networkOrdersRow
namespace Go.Proofs.YtghefgifhebniaaGreatDoor
open Go.RowKit Go.Sort
set_option linter.unusedVariables false
set_option linter.unusedSimpArgs false
theorem o_edges {NA LA : Option Addr} {n nc m lc : Nat} {D : Nds} {K : Lks} {w : World} (hz : NetSz D n K m) (hP : netP D n K m) (hD : NdIn w NA n D) (hK : LkIn w LA m K) :
 Calls Tryz.prog 16 #[.agg #[.slice NA n nc, .slice LA m lc]] w fun e w' => ∃ A c, e = .returned (.tuple #[.slice A m c, .int .i64 0]) ∧ TabIn w' A m (eX D n K) (eY D n K) ∧ Below w.heap.size w w' := by
 refine (tnedges NA LA n nc m lc D K hz w hD hK).mono ?_
 rintro e w'' (⟨h, _⟩ | ⟨_, u, h1, h2⟩)
 · exact absurd hP h
 · obtain ⟨A, c, rfl, ht⟩ := h2.tab hz.m2
   exact ⟨A, c, h1, ht, h2.2⟩
theorem o_order {NA LA : Option Addr} {n nc m lc : Nat} {D : Nds} {K : Lks} {w : World} (hz : NetSz D n K m) (hP : netP D n K m) (hD : NdIn w NA n D) (hK : LkIn w LA m K) :
 Calls Tryz.prog 17 #[.agg #[.slice NA n nc, .slice LA m lc]] w fun e w' => ∃ u, e = .returned (.tuple #[u, .int .i64 (ordE n (eX D n K) (eY D n K) m)]) ∧ w'.ownsRow w.heap.size 3 1 u (ordR n (eX D n K) (eY D n K) m).length (ic (ordR n (eX D n K) (eY D n K) m)) ∧ Below w.heap.size w w' := by
 refine (tnorder NA LA n nc m lc D K hz w hD hK).mono ?_
 rintro e w'' (⟨h, _⟩ | ⟨_, u, h1, h2, h3⟩)
 · exact absurd hP h
 · exact ⟨u, h1, h2, h3⟩
theorem o_loop {n m c : Nat} {A : Option Addr} {D : Nds} {K : Lks} {w : World} (hP : netP D n K m) (ht : TabIn w A m (eX D n K) (eY D n K)) :
 Calls Tryz.prog 51 #[.int .i64 n, .slice A m c] w fun e w' => (∃ u, e = .returned (.tuple #[u, .int .i64 (if (ordO n (eX D n K) (eY D n K) m).length < n then 0 else 12)])) ∧ Below w.heap.size w w' :=
 dLoop A n m c _ _ w hP.1 (by have := hP.2.1; omega) (netP_ed hP) ht
theorem o_above {NA LA : Option Addr} {n nc m lc v : Nat} {D : Nds} {K : Lks} {s : ByteArray} {w : World} (hz : NetSz D n K m) (hP : netP D n K m) (hv : v < n) (hs : D.Nm v = s) (hD : NdIn w NA n D) (hK : LkIn w LA m K) :
 Calls Tryz.prog 23 #[.agg #[.slice NA n nc, .slice LA m lc], .string s] w fun e w' => ∃ u, e = .returned (.tuple #[u, .int .i64 0]) ∧ w'.ownsRow w.heap.size 9 1 u (nmL D (wayB (eY D n K) (eX D n K) m (v : Int)) n).length (sc (nmL D (wayB (eY D n K) (eX D n K) m (v : Int)) n)) ∧ Below w.heap.size w w' := by
 refine (tnabove NA LA n nc m lc D K s hz w hD hK).mono ?_
 have hf : fnd D.Nm n s = (v : Int) := by rw [← hs]; exact (hP.2.2.1 v hv).2
 rintro e w'' (⟨h, _⟩ | ⟨_, ⟨h, _⟩ | ⟨_, u, h1, h2⟩⟩)
 · exact absurd hP h
 · omega
 · rw [hf] at h2
   exact ⟨u, h1, h2.1, h2.2⟩
theorem not_above {n m i : Nat} {D : Nds} {K : Lks} {O : List Int} (hP : netP D n K m) (hi : i < n) (hO : OrdP n (eX D n K) (eY D n K) m O) (hl : ¬ O.length < n) : D.Nm i ∉ nmL D (wayB (eY D n K) (eX D n K) m (i : Int)) n := by
 intro h
 obtain ⟨u, hu, h1, h2⟩ := mem_nmL.1 ((way_dual hP hi hi).1 h)
 have e1 := (hP.2.2.1 u hu).2
 rw [h2, (hP.2.2.1 i hi).2] at e1
 have e2 : u = i := by omega
 rw [e2] at h1
 exact hO.noWay hl (netP_ed hP) hi (wayB_iff.1 h1)
def plc (L : List Int) (i : Nat) (W : Nat → Int) (n : Nat) : Prop := ∀ v : Nat, v < n → W v = if (v : Int) ∈ L.take i then (L.idxOf (v : Int) : Int) + 1 else 0
theorem plc_zero (L : List Int) (n : Nat) : plc L 0 (fun _ => 0) n := fun v _ => by simp
theorem plc_succ {L : List Int} {i n x : Nat} {W : Nat → Int} (h : plc L i W n) (hd : L.Nodup) (hx : L[i]? = some (x : Int)) : plc L (i + 1) (wset W x ((i : Int) + 1)) n ∧ (x : Int) ∉ L.take i := by
 obtain ⟨hl, he⟩ := List.getElem?_eq_some_iff.1 hx
 have hs : L = L.take i ++ (x : Int) :: L.drop (i + 1) := by
  have := (List.take_append_drop i L).symm
  rwa [List.drop_eq_getElem_cons hl, he] at this
 have hni : (x : Int) ∉ L.take i := fun hm => by
  rw [hs, List.nodup_append] at hd
  exact hd.2.2 _ hm _ (by simp) rfl
 have hix : L.idxOf (x : Int) = i := by
  rw [hs, idx_app hni, List.length_take]; omega
 refine ⟨fun v hv => ?_, hni⟩
 have ht : L.take (i + 1) = L.take i ++ [(x : Int)] := by rw [List.take_add_one, hx]; rfl
 rw [ht]
 by_cases e : v = x
 · subst e
   rw [wset_same, if_pos (by simp), hix]
 · rw [wset_other _ _ _ _ e, h v hv]
   have : ((v : Int) ∈ L.take i ++ [(x : Int)]) ↔ (v : Int) ∈ L.take i := by
    rw [List.mem_append, List.mem_singleton]
    constructor
    · rintro (g | g)
      · exact g
      · omega
    · exact .inl
   simp only [this]
theorem plc_all {L : List Int} {n : Nat} {W : Nat → Int} (h : plc L L.length W n) (hall : ∀ v : Nat, v < n → (v : Int) ∈ L) {v : Nat} (hv : v < n) : W v = (L.idxOf (v : Int) : Int) + 1 := by
 rw [h v hv, List.take_length, if_pos (hall v hv)]
set_option maxRecDepth 100000 in
set_option maxHeartbeats 8000000 in
theorem netorders (NA LA : Option Addr) (n nc m lc : Nat) (D : Nds) (K : Lks) (w : World) (hD : NdIn w NA n D) (hK : LkIn w LA m K) (hE : Env w) :
 Calls Tryz.prog 13 #[.agg #[.slice NA n nc, .slice LA m lc]] w fun e w' => e = .returned (.bool true) ∧ Below w.heap.size w w' := by
 have hal : Below w.heap.size w (w.alloc (Obj.cells #[.slice NA n nc, .slice LA m lc] 25)) := (Below.refl _ w).alloc (Nat.le_refl _) _
 have HAL := Lib.hid hal
 have HB0 : Hid (Blk (w.alloc (Obj.cells #[.slice NA n nc, .slice LA m lc] 25)) w.heap.size 25 #[.slice NA n nc, .slice LA m lc]) := Blk.new _ _ _
 have HE0 := Lib.hid (hE.below hal)
 have HD := Lib.hid hD
 have HK := Lib.hid hK
 clear hD hK hE hal
 obtain ⟨V, hV⟩ : ∃ V, Hid (V = boolOf (lgP D n K m)) := ⟨_, rfl⟩
 go_enter Tryz.func13, Tryz.ntmps13
 go_upto_region 3 with (first
  | (go_at_call 14
     with_reducible refine (awake26 _ HE0.out).mono ?_
     rintro e w1 ⟨rfl, hb1⟩
     have HB1 := Lib.hid (below_step HAL.out hb1)
     have HBB := Lib.hid (HB0.out.call hb1)
     clear hb1))
 obtain ⟨y0, y1⟩ := blk2 HBB.out
 have SL : Hid (Calls Tryz.prog 15 #[.agg #[.slice NA n nc, .slice LA m lc]] w1 fun e w' => e = .returned (.bool V) ∧ Below w1.heap.size w1 w') := by rw [hV.out]; exact tlarge NA LA n nc m lc D K w1 (HD.out.below (Nat.le_refl _) HB1.out) (HK.out.below (Nat.le_refl _) HB1.out)
 by_cases hl : lgP D n K m
 · obtain rfl : V = true := hV.out.trans (boolOf_true hl)
   clear hl hV
   go_wp2_with (first
    | (go_at_call 15
       with_reducible refine SL.out.mono ?_
       rintro e w2 ⟨rfl, hb2⟩
       have HB2 := Lib.hid (below_step HB1.out hb2)
       clear hb2))
   go_ret
   exact ⟨rfl, HB2.out⟩
 obtain rfl : V = false := hV.out.trans (boolOf_false hl)
 have HZ := Lib.hid (lg_sz hl)
 clear hl hV
 have SV : Hid (∀ w', Below w.heap.size w w' → Calls Tryz.prog 18 #[.agg #[.slice NA n nc, .slice LA m lc]] w' fun e w'' => e = .returned (.bool (boolOf (netP D n K m))) ∧ Below w'.heap.size w' w'') := fun w' hb => wvalidN NA LA n nc m lc D K HZ.out w' (HD.out.below (Nat.le_refl _) hb) (HK.out.below (Nat.le_refl _) hb)
 by_cases hP : netP D n K m
 case neg =>
  rw [boolOf_false hP] at SV
  clear hP
  go_wp2_with (first
   | (go_at_call 15
      with_reducible refine (SL.out).mono ?_
      rintro e w2 ⟨rfl, hb2⟩
      have HB2 := Lib.hid (below_step HB1.out hb2)
      have HX2 := Lib.hid (HBB.out.call hb2)
      obtain ⟨y0, y1⟩ := blk2 HX2.out
      clear hb2)
   | (go_at_call 18
      with_reducible refine (SV.out _ HB2.out).mono ?_
      rintro e w3 ⟨rfl, hb2⟩
      have HB3 := Lib.hid (below_step HB2.out hb2)
      have HX3 := Lib.hid (HX2.out.call hb2)
      obtain ⟨y0, y1⟩ := blk2 HX3.out
      clear hb2))
  go_ret
  exact ⟨rfl, HB3.out⟩
 rw [boolOf_true hP] at SV
 have HP := Lib.hid hP
 have SE : Hid (∀ w', Below w.heap.size w w' → Calls Tryz.prog 16 #[.agg #[.slice NA n nc, .slice LA m lc]] w' fun e w'' => ∃ A c, e = .returned (.tuple #[.slice A m c, .int .i64 0]) ∧ TabIn w'' A m (eX D n K) (eY D n K) ∧ Below w'.heap.size w' w'') := fun w' hb => o_edges HZ.out hP (HD.out.below (Nat.le_refl _) hb) (HK.out.below (Nat.le_refl _) hb)
 have SO : Hid (∀ w', Below w.heap.size w w' → Calls Tryz.prog 17 #[.agg #[.slice NA n nc, .slice LA m lc]] w' fun e w'' => ∃ u, e = .returned (.tuple #[u, .int .i64 (ordE n (eX D n K) (eY D n K) m)]) ∧ w''.ownsRow w'.heap.size 3 1 u (ordR n (eX D n K) (eY D n K) m).length (ic (ordR n (eX D n K) (eY D n K) m)) ∧ Below w'.heap.size w' w'') := fun w' hb => o_order HZ.out hP (HD.out.below (Nat.le_refl _) hb) (HK.out.below (Nat.le_refl _) hb)
 have SP : Hid (∀ w' A c, TabIn w' A m (eX D n K) (eY D n K) → Calls Tryz.prog 51 #[.int .i64 n, .slice A m c] w' fun e w'' => (∃ u, e = .returned (.tuple #[u, .int .i64 (if (ordO n (eX D n K) (eY D n K) m).length < n then 0 else 12)])) ∧ Below w'.heap.size w' w'') := fun w' A c ht => o_loop hP ht
 by_cases hlo : (ordO n (eX D n K) (eY D n K) m).length < n
 case pos =>
  have r1 : ordE n (eX D n K) (eY D n K) m = 22 := by unfold ordE; rw [if_pos hlo]
  have r2 : ordR n (eX D n K) (eY D n K) m = [] := by unfold ordR; rw [if_pos hlo]
  rw [r1, r2] at SO
  rw [if_pos hlo] at SP
  clear r1 r2 hlo hP
  go_wp2_with (first
   | (go_at_call 15
      with_reducible refine (SL.out).mono ?_
      rintro e w2 ⟨rfl, hb2⟩
      have HB2 := Lib.hid (below_step HB1.out hb2)
      have HX2 := Lib.hid (HBB.out.call hb2)
      obtain ⟨y0, y1⟩ := blk2 HX2.out
      clear hb2)
   | (go_at_call 18
      with_reducible refine (SV.out _ HB2.out).mono ?_
      rintro e w3 ⟨rfl, hb2⟩
      have HB3 := Lib.hid (below_step HB2.out hb2)
      have HX3 := Lib.hid (HX2.out.call hb2)
      obtain ⟨y0, y1⟩ := blk2 HX3.out
      clear hb2)
   | (go_at_call 16
      with_reducible refine (SE.out _ HB3.out).mono ?_
      rintro e w4 ⟨A4, c4, rfl, ht4, hb2⟩
      have HB4 := Lib.hid (below_step HB3.out hb2)
      have HX4 := Lib.hid (HX3.out.call hb2)
      obtain ⟨y0, y1⟩ := blk2 HX4.out
      have HT4 := Lib.hid ht4
      clear ht4
      clear hb2)
   | (go_at_call 17
      with_reducible refine (SO.out _ HB4.out).mono ?_
      rintro e w5 ⟨u5, rfl, ho5, hb2⟩
      have HB5 := Lib.hid (below_step HB4.out hb2)
      have HX5 := Lib.hid (HX4.out.call hb2)
      obtain ⟨y0, y1⟩ := blk2 HX5.out
      obtain ⟨A5, c5, rfl⟩ := nr_form ho5
      have HO5 := Lib.hid ho5
      clear ho5
      have HT5 := Lib.hid (HT4.out.below (Nat.le_refl _) hb2)
      clear hb2)
   | (go_at_call 51
      with_reducible refine (SP.out _ _ _ HT5.out).mono ?_
      rintro e w6 ⟨⟨u6, rfl⟩, hb2⟩
      have HB6 := Lib.hid (below_step HB5.out hb2)
      have HX6 := Lib.hid (HX5.out.call hb2)
      obtain ⟨y0, y1⟩ := blk2 HX6.out
      have HT6 := Lib.hid (HT5.out.below (Nat.le_refl _) hb2)
      have HO6 := Lib.hid (own_below HO5.out hb2)
      clear hb2))
  go_ret
  exact ⟨rfl, HB6.out⟩
 have r1 : ordE n (eX D n K) (eY D n K) m = 0 := by unfold ordE; rw [if_neg hlo]
 have r2 : ordR n (eX D n K) (eY D n K) m = ordO n (eX D n K) (eY D n K) m := by unfold ordR; rw [if_neg hlo]
 rw [r1, r2] at SO
 rw [if_neg hlo] at SP
 have HPO := Lib.hid (ordO_P n (eX D n K) (eY D n K) m)
 have HLO := Lib.hid hlo
 have hlen : (ordO n (eX D n K) (eY D n K) m).length = n := by have := (ordO_P n (eX D n K) (eY D n K) m).len; omega
 rw [hlen] at SO
 have HLN := Lib.hid hlen
 have HN3 : Hid (n ≤ 300) := hP.1
 have HED := Lib.hid (netP_ed hP)
 generalize ordO n (eX D n K) (eY D n K) m = O at SO HPO HLO HLN
 have hmk := mk_run 32 3 n 8 (.int .i64 0) infoI Tryz.underlying32 rfl (by have := HN3.out; omega) (by omega)
 obtain ⟨Z, hZ⟩ : ∃ Z, ((List.range n).map fun _ => Value.int .i64 0).toArray = Z := ⟨_, rfl⟩
 rw [hZ] at hmk
 have HZZ : Hid (Z = wcs n fun _ => 0) := hZ.symm
 clear r1 r2 hlo hP hlen hZ
 go_upto_region 13 with (first
  | (go_at_call 15
     with_reducible refine (SL.out).mono ?_
     rintro e w2 ⟨rfl, hb2⟩
     have HB2 := Lib.hid (below_step HB1.out hb2)
     have HX2 := Lib.hid (HBB.out.call hb2)
     obtain ⟨y0, y1⟩ := blk2 HX2.out
     clear hb2)
  | (go_at_call 18
     with_reducible refine (SV.out _ HB2.out).mono ?_
     rintro e w3 ⟨rfl, hb2⟩
     have HB3 := Lib.hid (below_step HB2.out hb2)
     have HX3 := Lib.hid (HX2.out.call hb2)
     obtain ⟨y0, y1⟩ := blk2 HX3.out
     clear hb2)
  | (go_at_call 16
     with_reducible refine (SE.out _ HB3.out).mono ?_
     rintro e w4 ⟨A4, c4, rfl, ht4, hb2⟩
     have HB4 := Lib.hid (below_step HB3.out hb2)
     have HX4 := Lib.hid (HX3.out.call hb2)
     obtain ⟨y0, y1⟩ := blk2 HX4.out
     have HT4 := Lib.hid ht4
     clear ht4
     clear hb2)
  | (go_at_call 17
     with_reducible refine (SO.out _ HB4.out).mono ?_
     rintro e w5 ⟨u5, rfl, ho5, hb2⟩
     have HB5 := Lib.hid (below_step HB4.out hb2)
     have HX5 := Lib.hid (HX4.out.call hb2)
     obtain ⟨y0, y1⟩ := blk2 HX5.out
     obtain ⟨A5, c5, rfl⟩ := nr_form ho5
     have HO5 := Lib.hid ho5
     clear ho5
     have HT5 := Lib.hid (HT4.out.below (Nat.le_refl _) hb2)
     clear hb2)
  | (go_at_call 51
     with_reducible refine (SP.out _ _ _ HT5.out).mono ?_
     rintro e w6 ⟨⟨u6, rfl⟩, hb2⟩
     have HB6 := Lib.hid (below_step HB5.out hb2)
     have HX6 := Lib.hid (HX5.out.call hb2)
     obtain ⟨y0, y1⟩ := blk2 HX6.out
     have HT6 := Lib.hid (HT5.out.below (Nat.le_refl _) hb2)
     have HO6 := Lib.hid (own_below HO5.out hb2)
     clear hb2))
 clear hmk
 have HWA : Hid (Blk (w6.alloc (Obj.cells Z 3)) w6.heap.size 3 (wcs n fun _ => 0)) := by
  have := Blk.new w6 3 Z
  rwa [HZZ.out] at this ⊢
 have HWB : Hid (Below w6.heap.size w6 (w6.alloc (Obj.cells Z 3))) := (Below.refl _ w6).alloc (Nat.le_refl _) _
 have HX7 : Hid (Blk (w6.alloc (Obj.cells Z 3)) w.heap.size 25 #[.slice NA n nc, .slice LA m lc]) := HX6.out.alloc _
 have HXL : Hid (w.heap.size < w6.heap.size) := HX6.out.lt
 have HRD : Hid (n = 0 ∨ ∃ g off, A5 = some ⟨g, off, none⟩ ∧ ∀ w', Below w6.heap.size w6 w' → ∀ j, j < n → w'.cell? ⟨g, off + j, none⟩ = some (.int .i64 (O.getD j 0))) := by
  rcases rdy_of_own HO6.out with ⟨h, _⟩ | ⟨g, off, cq, hu, hq, _⟩
  · left; have := HLN.out; rw [h] at this; simpa using this.symm
  · right
    simp only [Value.slice.injEq] at hu
    exact ⟨g, off, hu.1, fun w' hb j hj => (hq.call hb).cell (by rw [HLN.out]; exact hj)⟩
 clear HZZ y0 y1
 generalize w6.alloc (Obj.cells Z 3) = w7 at HWA HWB HX7 ⊢
 go_wp2_with fail
 obtain ⟨w0, hw0⟩ : ∃ w0 : World, w0 = w7 := ⟨_, rfl⟩
 go_loopw [69] (fun x wr => ∃ (i : Nat) (W : Nat → Int), x = .int .i64 i ∧ Hid (i ≤ n) ∧ Hid (Blk wr w6.heap.size 3 (wcs n W)) ∧ Hid (Below w6.heap.size w6 wr) ∧ Hid (Blk wr w.heap.size 25 #[.slice NA n nc, .slice LA m lc]) ∧ Hid (plc O i W n)) (fun x _ => n - (RowKit.intOf x).toNat)
 case atStart => exact ⟨0, _, rfl, Nat.zero_le _, HWA, HWB, HX7, plc_zero O n⟩
 case round =>
  clear HWA HWB HX7 hw0
  obtain ⟨i, W, rfl, Hi, HWA, HWB, HX, HPL⟩ := hrel
  by_cases hlt : i < n
  · have T0 : decide ((i : Int) < (n : Int)) = true := by simp <;> omega
    have T0' : decide (i < n) = true := decide_eq_true hlt
    obtain ⟨i', hi'⟩ : ∃ z, z = i + 1 := ⟨_, rfl⟩
    have x0 : IntKind.i64.wrap ((i : Int) + 1) = (i' : Int) := by have := HN3.out; rw [IntKind.wrap_i64]; omega
    have HI' : Hid (i' ≤ n ∧ i' = i + 1) := ⟨by omega, hi'⟩
    have HMS : Hid (n - (RowKit.intOf (Value.int .i64 (i' : Int))).toNat < n - (RowKit.intOf (Value.int .i64 (i : Int))).toNat) := by show _ < _; simp [RowKit.intOf]; omega
    have k0 : (0 : Int) ≤ (i : Int) := by omega
    have k1 : (i : Int) < (n : Int) := by omega
    rcases HRD.out with h0 | ⟨g, off, hA, hcell⟩
    · omega
    subst hA
    have hiO : i < O.length := by rw [HLN.out]; exact hlt
    have hx : O[i]? = some (O.getD i 0) := by simp [List.getD, hiO]
    have hbd := HPO.out.bd _ (List.mem_of_getElem? hx)
    obtain ⟨x, hxx⟩ : ∃ x : Nat, O.getD i 0 = (x : Int) := ⟨(O.getD i 0).toNat, by omega⟩
    have ce := hcell wr HWB.out i hlt
    rw [hxx] at ce hx hbd
    have hxn : x < n := by omega
    have hpl := plc_succ HPL.out HPO.out.nd hx
    have HP2 := Lib.hid hpl.1
    have cw := HWA.out.cell x
    have fw := HWA.out.frozen x
    rw [wcs_at hxn, HPL.out x hxn, if_neg hpl.2] at cw
    have B0 : decide ((x : Int) < 0) = false := decide_eq_false (by omega)
    have B1 : decide ((n : Int) ≤ (x : Int)) = false := decide_eq_false (by omega)
    have B1' : decide (n ≤ x) = false := decide_eq_false (by omega)
    have j0 : (0 : Int) ≤ (x : Int) := by omega
    have j1 : (x : Int) < (n : Int) := by omega
    clear hi' hlt hcell hiO hx hbd hxx hxn hpl
    go_wp2_with fail
    go_roundw
    case rel =>
        refine ⟨i', _, rfl, HI'.out.1, by have := HWA.out.set_ x (.int .i64 (i' : Int)); rwa [wcs_set] at this, HWB.out.setCell (p := ⟨w6.heap.size, x, none⟩) (Nat.le_refl _) _, HX.out.far (p := ⟨w6.heap.size, x, none⟩) (Nat.ne_of_lt HXL.out) _, ?_⟩
        have h1 := HP2.out
        have h2 := HI'.out.2
        have h3 : (i' : Int) = (i : Int) + 1 := by omega
        rw [h3, h2]
        exact h1
    case measure => exact HMS.out
  · have e : i = n := by have := Hi.out; omega
    have T0 : decide ((i : Int) < (n : Int)) = false := by simp <;> omega
    have T0' : decide (i < n) = false := decide_eq_false hlt
    have T1 : ((n : Int) != (n : Int)) = false := by simp
    have hall : ∀ v : Nat, v < n → (v : Int) ∈ O := fun v hv => HPO.out.all HLO.out hv
    have hpp := HPL.out
    rw [e, ← HLN.out] at hpp
    rw [HLN.out] at hpp
    have HPA : Hid (∀ v : Nat, v < n → W v = (O.idxOf (v : Int) : Int) + 1) := fun v hv => plc_all (by rw [HLN.out]; exact hpp) hall hv
    have HALL := Lib.hid hall
    have HWA1 := HWA
    have HWB1 := HWB
    have HX1 := HX
    have HM2 : Hid (m ≤ 2000) := HZ.out.m2
    clear hlt e hall hpp HWA HWB HX HPL
    go_wp2_with fail
    obtain ⟨w0, hw0⟩ : ∃ w0 : World, w0 = wr := ⟨_, rfl⟩
    go_loopw [102] (fun x wr => ∃ k : Nat, x = .int .i64 k ∧ Hid (k ≤ m) ∧ Hid (Blk wr w6.heap.size 3 (wcs n W)) ∧ Hid (Below w6.heap.size w6 wr) ∧ Hid (Blk wr w.heap.size 25 #[.slice NA n nc, .slice LA m lc])) (fun x _ => m - (RowKit.intOf x).toNat)
    case atStart => exact ⟨0, rfl, Nat.zero_le _, HWA1, HWB1, HX1⟩
    case round =>
        clear HWA1 HWB1 HX1 hw0
        obtain ⟨k, rfl, Hk, HWA, HWB, HX⟩ := hrel
        by_cases hlt : k < m
        · have T2 : decide ((k : Int) < (m : Int)) = true := by simp <;> omega
          have T2' : decide (k < m) = true := decide_eq_true hlt
          obtain ⟨k', hk'⟩ : ∃ z, z = k + 1 := ⟨_, rfl⟩
          have x0 : IntKind.i64.wrap ((k : Int) + 1) = (k' : Int) := by have := HM2.out; rw [IntKind.wrap_i64]; omega
          have HK' : Hid (k' ≤ m ∧ k' = k + 1) := ⟨by omega, hk'⟩
          have HMS : Hid (m - (RowKit.intOf (Value.int .i64 (k' : Int))).toNat < m - (RowKit.intOf (Value.int .i64 (k : Int))).toNat) := by show _ < _; simp [RowKit.intOf]; omega
          have k0 : (0 : Int) ≤ (k : Int) := by omega
          have k1 : (k : Int) < (m : Int) := by omega
          obtain ⟨b, off, hA, hb, c0, c1⟩ := (HT6.out.below (Nat.le_refl _) HWB.out).at hlt
          subst hA
          have hbx := HED.out.x k hlt
          have hby := HED.out.y k hlt
          obtain ⟨a, ha⟩ : ∃ a : Nat, eX D n K k = (a : Int) := ⟨(eX D n K k).toNat, by omega⟩
          obtain ⟨c, hc⟩ : ∃ c : Nat, eY D n K k = (c : Int) := ⟨(eY D n K k).toNat, by omega⟩
          have hltp := HPO.out.lt (x := (a : Int)) (HALL.out c (by omega)) ⟨k, hlt, ha, hc⟩
          rw [ha] at c0 hbx
          rw [hc] at c1 hby
          have han : a < n := by omega
          have hcn : c < n := by omega
          have hwa := HPA.out a han
          have hwc := HPA.out c hcn
          obtain ⟨pa, hpa⟩ : ∃ p, W a = p := ⟨_, rfl⟩
          obtain ⟨pc, hpc⟩ : ∃ p, W c = p := ⟨_, rfl⟩
          have B0 : decide ((a : Int) < 0) = false := decide_eq_false (by omega)
          have B1 : decide ((n : Int) ≤ (a : Int)) = false := decide_eq_false (by omega)
          have B1' : decide (n ≤ a) = false := decide_eq_false (by omega)
          have B2 : decide ((c : Int) < 0) = false := decide_eq_false (by omega)
          have B3 : decide ((n : Int) ≤ (c : Int)) = false := decide_eq_false (by omega)
          have B3' : decide (n ≤ c) = false := decide_eq_false (by omega)
          have B4 : decide (pc ≤ pa) = false := decide_eq_false (by rw [← hpa, ← hpc, hwa, hwc]; have := hltp.2; omega)
          have j0 : (0 : Int) ≤ (a : Int) := by omega
          have j1 : (a : Int) < (n : Int) := by omega
          have j2 : (0 : Int) ≤ (c : Int) := by omega
          have j3 : (c : Int) < (n : Int) := by omega
          have HAN : Hid (a < n ∧ c < n ∧ W a = pa ∧ W c = pc) := ⟨han, hcn, hpa, hpc⟩
          clear hk' hlt hbx hby ha hc hltp han hcn hwa hwc hpa hpc
          go_upto_region 25 with fail
          have hal : Below wr.heap.size wr (wr.alloc (Obj.cells #[.int .i64 (a : Int), .int .i64 (c : Int)] 38)) := (Below.refl _ wr).alloc (Nat.le_refl _) _
          have HBG : Hid (Blk (wr.alloc (Obj.cells #[.int .i64 (a : Int), .int .i64 (c : Int)] 38)) wr.heap.size 38 #[.int .i64 (a : Int), .int .i64 (c : Int)]) := Blk.new _ _ _
          have HWA4 := Lib.hid (HWA.out.call hal)
          have HWB4 := Lib.hid (below_step HWB.out hal)
          have HX4 := Lib.hid (HX.out.call hal)
          clear hal c0 c1 hb HWA HWB HX
          generalize wr.alloc (Obj.cells _ 38) = w8 at HBG HWA4 HWB4 HX4 ⊢
          generalize wr.heap.size = G at HBG ⊢
          obtain ⟨s0, s1⟩ := two_cells HBG.out
          have p0 := HWA4.out.cell a
          have p1 := HWA4.out.cell c
          rw [wcs_at HAN.out.1, HAN.out.2.2.1] at p0
          rw [wcs_at HAN.out.2.1, HAN.out.2.2.2] at p1
          go_quiet (fail)
          clear p0 p1 s0 s1
          go_wp2_with fail
          go_roundw
          case rel => exact ⟨k', rfl, HK'.out.1, HWA4.out.drewN _, below_drewN HWB4.out _, HX4.out.drewN _⟩
          case measure => exact HMS.out
        · have T2 : decide ((k : Int) < (m : Int)) = false := by have := Hk.out; simp <;> omega
          have T2' : decide (k < m) = false := decide_eq_false hlt
          obtain ⟨y0, y1⟩ := blk2 HX.out
          have HW1 := Lib.hid (below_step HB6.out HWB.out)
          have HX1 := HX
          clear hlt HWA HWB HX
          go_wp2_with fail
          clear y0 y1
          go_loopw [145] (fun x wr => ∃ i : Nat, x = .int .i64 i ∧ Hid (i ≤ n) ∧ Hid (Below w.heap.size w wr) ∧ Hid (Blk wr w.heap.size 25 #[.slice NA n nc, .slice LA m lc])) (fun x _ => n - (RowKit.intOf x).toNat)
          case atStart => exact ⟨0, rfl, Nat.zero_le _, HW1, HX1⟩
          case round =>
           clear HW1 HX1
           obtain ⟨i, rfl, Hi, HW, HX⟩ := hrel
           by_cases hlt : i < n
           · have T3 : decide ((i : Int) < (n : Int)) = true := by simp <;> omega
             have T3' : decide (i < n) = true := decide_eq_true hlt
             obtain ⟨i', hi'⟩ : ∃ z, z = i + 1 := ⟨_, rfl⟩
             have x0 : IntKind.i64.wrap ((i : Int) + 1) = (i' : Int) := by have := HN3.out; rw [IntKind.wrap_i64]; omega
             have HI' : Hid (i' ≤ n ∧ i' = i + 1) := ⟨by omega, hi'⟩
             have HMS : Hid (n - (RowKit.intOf (Value.int .i64 (i' : Int))).toNat < n - (RowKit.intOf (Value.int .i64 (i : Int))).toNat) := by show _ < _; simp [RowKit.intOf]; omega
             have k0 : (0 : Int) ≤ (i : Int) := by omega
             have k1 : (i : Int) < (n : Int) := by omega
             have HIN := Lib.hid hlt
             obtain ⟨bk, ok, rfl, hbk, hC, htab⟩ := (HD.out.below (Nat.le_refl _) HW.out).at hlt
             have c0 := hC 0 _ rfl
             have c1 := hC 1 _ rfl
             have c2 := hC 2 _ rfl
             have c3 := hC 3 _ rfl
             have c4 := hC 4 _ rfl
             have c5 := hC 5 _ rfl
             have c6 := hC 6 _ rfl
             have c7 := hC 7 _ rfl
             have c8 := hC 8 _ rfl
             simp only [Nat.add_zero] at c0
             clear hi' hC htab hlt hbk
             go_upto_region 31 with fail
             have hal : Below wr.heap.size wr (wr.alloc (Obj.cells (ndA D i) 55)) := (Below.refl _ wr).alloc (Nat.le_refl _) _
             have HBG : Hid (Blk (wr.alloc (Obj.cells (ndA D i) 55)) wr.heap.size 55 (ndA D i)) := Blk.new _ _ _
             have HW4 := Lib.hid (below_step HW.out hal)
             have HX4 := Lib.hid (HX.out.call hal)
             clear hal c0 c1 c2 c3 c4 c5 c6 c7 c8 HW HX
             unfold ndA at HBG HW4 HX4
             generalize wr.alloc (Obj.cells _ 55) = w8 at HBG HW4 HX4 ⊢
             generalize wr.heap.size = G at HBG ⊢
             obtain ⟨y0, y1⟩ := blk2 HX4.out
             have q0 : w8.cell? ⟨G, 0, none⟩ = some (.string (D.Nm i)) := HBG.out.cell 0
             by_cases h6 : i = 6
             · have B6 : ((i : Int) == 6) = true := by rw [h6]; decide
               have B6' : decide ((i : Int) = 6) = true := decide_eq_true (by omega)
               have B6'' : decide (i = 6) = true := decide_eq_true h6
               clear h6
               go_wp2_with fail
               go_ret
               exact ⟨rfl, HW4.out⟩
             · have B6 : ((i : Int) == 6) = false := by rw [beq_eq_false_iff_ne]; omega
               have B6' : decide ((i : Int) = 6) = false := decide_eq_false (by omega)
               have B6'' : decide (i = 6) = false := decide_eq_false h6
               clear h6
               have SA := Lib.hid (o_above (nc := nc) (lc := lc) HZ.out HP.out HIN.out rfl (HD.out.below (Nat.le_refl _) HW4.out) (HK.out.below (Nat.le_refl _) HW4.out))
               have HNI : Hid (D.Nm i ∉ nmL D (wayB (eY D n K) (eX D n K) m (i : Int)) n) := not_above HP.out HIN.out HPO.out HLO.out
               have HLL : Hid ((nmL D (wayB (eY D n K) (eX D n K) m (i : Int)) n).length ≤ 2000) := by show _ ≤ _; have := nmL_len D (wayB (eY D n K) (eX D n K) m (i : Int)) n; have := HN3.out; omega
               have HQ := Lib.hid (HBG.out.cell 0)
               generalize nmL D (wayB (eY D n K) (eX D n K) m (i : Int)) n = LL at SA HNI HLL
               generalize D.Nm i = sn at SA q0 HNI HBG HQ
               have HQ : Hid (∀ w', Below w8.heap.size w8 w' → w'.cell? ⟨G, 0, none⟩ = some (.string sn)) := fun w' hb => (hb.cell (p := ⟨G, 0, none⟩) HBG.out.lt).trans q0
               go_wp2_with (first
                  | (go_at_call 23
                     with_reducible refine SA.out.mono ?_
                     rintro e w9 ⟨u9, rfl, ho9, hb2⟩
                     have HW9 := Lib.hid (below_step HW4.out hb2)
                     have HX9 := Lib.hid (HX4.out.call hb2)
                     have q9 := HQ.out _ hb2
                     have SC := Lib.hid (ctn sn ho9 HLL.out)
                     obtain ⟨A9, c9, rfl⟩ := nr_form ho9
                     rw [boolOf_false HNI.out] at SC
                     clear hb2 ho9)
                  | (go_at_call 29
                     with_reducible refine SC.out.mono ?_
                     rintro e w10 ⟨rfl, hb2⟩
                     have HW10 := Lib.hid (below_step HW9.out hb2)
                     have HX10 := Lib.hid (HX9.out.call hb2)
                     clear hb2))
               go_roundw
               case rel => exact ⟨i', rfl, HI'.out.1, HW10, HX10⟩
               case measure => exact HMS.out
           · have T3 : decide ((i : Int) < (n : Int)) = false := by have := Hi.out; simp <;> omega
             have T3' : decide (i < n) = false := decide_eq_false hlt
             clear hlt
             go_wp2_with fail
             go_ret
             exact ⟨rfl, HW.out⟩
end Go.Proofs.YtghefgifhebniaaGreatDoor

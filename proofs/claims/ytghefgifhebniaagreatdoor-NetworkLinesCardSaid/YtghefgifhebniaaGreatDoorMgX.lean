/- Merged texts of these proofs: SpA, PrK, LLn. -/
import Derived.Test.YtghefgifhebniaaGreatDoorSpw
import Derived.Test.YtghefgifhebniaaGreatDoorMgV
import Derived.Test.YtghefgifhebniaaGreatDoorMgZ
import Derived.Test.YtghefgifhebniaaGreatDoorNPr
import Derived.Test.YtghefgifhebniaaGreatDoorMgC
import Derived.Test.YtghefgifhebniaaGreatDoorNetW
import Derived.Test.YtghefgifhebniaaGreatDoorMgA
import Derived.Test.YtghefgifhebniaaGreatDoorMgW
namespace Go.Proofs.YtghefgifhebniaaGreatDoor
open Go.RowKit Go.Shelf
set_option linter.unusedVariables false
set_option linter.unusedSimpArgs false
def baL (l : List UInt8) : ByteArray := ⟨l.toArray⟩
theorem indexB_10 (s : ByteArray) : Lib.indexB s ⟨#[10]⟩ = Lib.indexByte s.data.toList 10 := Lib.one s ⟨#[10]⟩ rfl
theorem index_at {a b : List UInt8} {c : UInt8} (h : c ∉ a) : Lib.indexByte (a ++ c :: b) c = (a.length : Int) := by
 induction a with
 | nil => simp [Lib.indexByte]
 | cons x a ih =>
   have hx : ¬ x = c := fun e => h (by simp [e])
   have h1 : (x == c) = false := by simp [hx]
   rw [List.cons_append]
   unfold Lib.indexByte
   rw [h1]
   simp only [Bool.false_eq_true, if_false]
   rw [ih fun e => h (by simp [e])]
   have : ((a.length : Int) == -1) = false := by simp <;> omega
   rw [this]
   simp
theorem splitB_lines : ∀ (ls : List (List UInt8)) (N : Nat), (∀ l, l ∈ ls → lineOK l) → ls.length ≤ N → Lib.splitB ⟨#[10]⟩ 1 N (baL ls.flatten) = ls.map baL ++ [⟨#[]⟩] := by
 intro ls
 induction ls with
 | nil =>
   intro N _ _
   have : (baL ([] : List (List UInt8)).flatten) = ⟨#[]⟩ := rfl
   rw [this, Lib.splitB_miss _ _ _ _ ((indexB_10 _).trans rfl)]
   rfl
 | cons l ls ih =>
   intro N h hN
   obtain ⟨a, rfl, ha⟩ := h l (by simp)
   have e1 : (baL (((a ++ [10]) :: ls).flatten)).data.toList = a ++ 10 :: ls.flatten := by
    show ((a ++ [10]) :: ls).flatten = _
    simp
   obtain ⟨M, rfl⟩ : ∃ M, N = M + 1 := ⟨N - 1, by simp at hN; omega⟩
   have hix : Lib.indexB (baL (((a ++ [10]) :: ls).flatten)) ⟨#[10]⟩ = (a.length : Int) := by
    rw [indexB_10, e1, index_at ha]
   rw [Lib.splitB_hit _ _ _ _ _ hix]
   have hsz : (baL (((a ++ [10]) :: ls).flatten)).size = a.length + 1 + ls.flatten.length := by
    rw [size_lst, e1, List.length_append, List.length_cons]; omega
   have ea : (baL (((a ++ [10]) :: ls).flatten)).extract 0 (a.length + 1) = baL (a ++ [10]) := by
    apply ByteArray.ext
    rw [ByteArray.data_extract]
    apply Array.ext'
    rw [Array.toList_extract, e1]
    show _ = a ++ [10]
    simp [List.take_append, List.take_of_length_le]
   have eb : (baL (((a ++ [10]) :: ls).flatten)).extract (a.length + (⟨#[10]⟩ : ByteArray).size) (baL (((a ++ [10]) :: ls).flatten)).size = baL ls.flatten := by
    apply ByteArray.ext
    rw [ByteArray.data_extract]
    apply Array.ext'
    rw [Array.toList_extract, e1, hsz, show (⟨#[10]⟩ : ByteArray).size = 1 from rfl]
    show _ = ls.flatten
    generalize ls.flatten = F
    simp
   rw [ea, eb, ih M (fun l hl => h l (by simp [hl])) (by simp at hN; omega)]
   rfl
theorem count_lines : ∀ ls : List (List UInt8), (∀ l, l ∈ ls → lineOK l) → Lib.countByte ls.flatten 10 = ls.length := by
 intro ls
 induction ls with
 | nil => intro _; rfl
 | cons l ls ih =>
   intro h
   obtain ⟨a, rfl, ha⟩ := h l (by simp)
   have := ih fun l hl => h l (by simp [hl])
   unfold Lib.countByte at *
   rw [List.flatten_cons, List.count_append, List.count_append, this, List.count_eq_zero_of_not_mem ha]
   simp; omega
theorem countB_10 (s : ByteArray) : Lib.countB s ⟨#[10]⟩ = Lib.countByte s.data.toList 10 := by
 show Lib.count s.data.toList [10] = _
 rw [Lib.count_one]
 rfl
def spaC (ls : List (List UInt8)) : Array Value := (ls.map (fun l => Value.string (baL l)) ++ [Value.string ⟨#[]⟩]).toArray
theorem lines_le : ∀ ls : List (List UInt8), (∀ l, l ∈ ls → lineOK l) → ls.length ≤ ls.flatten.length := by
 intro ls
 induction ls with
 | nil => intro _; simp
 | cons l ls ih =>
   intro h
   obtain ⟨a, rfl, ha⟩ := h l (by simp)
   have := ih fun l hl => h l (by simp [hl])
   rw [List.flatten_cons, List.length_append, List.length_cons, List.length_append, List.length_cons, List.length_nil]
   omega
set_option maxRecDepth 100000 in
set_option maxHeartbeats 1000000 in
theorem tsplita (ls : List (List UInt8)) (hok : ∀ l, l ∈ ls → lineOK l) (hs : ls.flatten.length ≤ 300000) (w : World) : Calls Tryz.prog 49 #[.string (baL ls.flatten), .string ⟨#[10]⟩] w fun e w' =>
 e = .returned (.slice (some ⟨w.heap.size, 0, none⟩) (ls.length + 1) (ls.length + 1)) ∧ w' = w.alloc (.cells (spaC ls) 9) := by
 have hsz : (baL ls.flatten).size = ls.flatten.length := rfl
 have hll := lines_le ls hok
 have hcnt : Lib.countByte (baL ls.flatten).data.toList 10 = ls.length := count_lines ls hok
 obtain ⟨N, hN⟩ : ∃ N, N = ls.length + 1 := ⟨_, rfl⟩
 have S := fun w => Any.strings_genSplit_core Tryz.lays221 (by kernel_rfl) (baL ls.flatten) ⟨#[10]⟩ 1 (-1) N w (by omega) (by decide) (by decide)
  (fun x c hx => (Tryz.strings_Index_one x 10 _).mono fun e w' ⟨h1, h2⟩ => ⟨by rw [h1, indexB_10], h2⟩)
  ((Any.strings_Count_one Tryz.lays138 (baL ls.flatten) 10 w).mono fun e w' ⟨h1, h2⟩ => ⟨by rw [h1, countB_10], h2⟩) (by decide) (by decide) (by rw [if_pos (by decide), countB_10, hcnt]; omega)
 rw [splitB_lines ls (N - 1) hok (by omega)] at S
 have hlen : (ls.map baL ++ [(⟨#[]⟩ : ByteArray)]).length = N := by simp [hN]
 rw [hlen] at S
 have hcells : Lib.cellsOf (ls.map baL ++ [(⟨#[]⟩ : ByteArray)]) N = spaC ls := by
  unfold Lib.cellsOf spaC
  rw [hlen, Nat.sub_self]
  simp [List.map_append]
 rw [hcells] at S
 have S : Hid (∀ w : World, Calls Tryz.prog 89 #[.string (baL ls.flatten), .string ⟨#[10]⟩, .int .i64 1, .int .i64 (-1)] w fun e w' => e = .returned (.slice (some ⟨w.heap.size, 0, none⟩) N N) ∧ w' = w.alloc (.cells (spaC ls) 9)) := S
 rw [← hN]
 generalize baL ls.flatten = s at S
 generalize spaC ls = cs at S
 clear hll hcnt hlen hcells hsz hok hs hN
 go_enter Tryz.func49, Tryz.ntmps49
 go_wp2_with (first | (go_at_call 89; (with_reducible refine (S.out _).mono ?_); rintro e w' ⟨rfl, rfl⟩))
 go_ret
 exact ⟨rfl, rfl⟩
theorem join_none : ∀ xs : List (List UInt8), Lib.join xs [] = xs.flatten
 | [] => rfl
 | x :: r => by
   rw [Lib.join_cons]
   unfold Lib.joinTail
   simp
theorem tjoin0 (b o c : Nat) (ls : List (List UInt8)) (hc : ls.length ≤ c) (hs : ls.flatten.length ≤ 300000) (hn : ls.length ≤ 300000) (w : World) (hb : b < w.heap.size) (ht : ∀ j l, ls[j]? = some l → w.cell? ⟨b, o + j, none⟩ = some (.string (baL l))) :
 Calls Tryz.prog 50 #[.slice (some ⟨b, o, none⟩) ls.length c, .string ⟨#[]⟩] w fun e w' => e = .returned (.string (baL ls.flatten)) ∧ Below w.heap.size w w' := by
 have hm : (ls.map baL).map (·.data.toList) = ls := by rw [List.map_map]; exact List.map_id' ls
 have hj : Lib.join ((ls.map baL).map (·.data.toList)) (⟨#[]⟩ : ByteArray).data.toList = ls.flatten := by
  rw [hm]; exact join_none ls
 have := Tryz.strings_Join b o c (ls.map baL) ⟨#[]⟩ w (fun j x hj => by
  rw [List.getElem?_map] at hj
  obtain ⟨l, hl, rfl⟩ := Option.map_eq_some_iff.1 hj
  exact ht j l hl) hb (by rw [List.length_map]; omega) (by rw [List.length_map]; omega) (by rw [hj]; omega)
 rw [hj, List.length_map] at this
 exact this
end Go.Proofs.YtghefgifhebniaaGreatDoor
namespace Go.Proofs.YtghefgifhebniaaGreatDoor
open Go.RowKit
set_option linter.unusedVariables false
set_option linter.unusedSimpArgs false
theorem ndx_len (M : List Ndm) : (ndx M).length = M.length := by simp [ndx]
theorem lkx_len (M : List Lkm) : (lkx M).length = M.length := by simp [lkx]
def PkPost (w : World) (N : List Ndr) (L : List Lkr) (e : Ending) (w' : World) : Prop :=
 ∃ (NM : List Ndm) (LM : List Lkm) (NA LA : Option Addr) (cn cl : Nat), ndx NM = N ∧ lkx LM = L ∧ e = .returned (.tuple #[.agg #[.slice NA N.length cn, .slice LA L.length cl], .agg #[.int .i64 0, .int .i64 0], .int .i64 0]) ∧ NdIn w' NA N.length (ndsM NM) ∧ LkIn w' LA L.length (lksM LM) ∧ Below w.heap.size w w'
theorem parse_net (s : ByteArray) (N : List Ndr) (L : List Lkr) (h : NtIs netV s.data.toList N L 0 0) (hs : s.size ≤ 262144) (hN : N.length ≤ 2000) (hL : L.length ≤ 2000) (hr : Runs [] [] (rln s.data.toList) N L) (w : World) (hE : Env w) :
 Calls Tryz.prog 45 #[.string s] w (PkPost w N L) := by
 refine (tnparse s (by omega) (fun N' L' h' => by obtain ⟨rfl, rfl⟩ := h'.det hr; exact ⟨hN, hL⟩) w hE).mono ?_
 rintro e w' ⟨NM, LM, k, er, NA, LA, cn, cl, hnt, rfl, hnd, hlk, hb⟩
 obtain ⟨q1, q2, rfl, rfl⟩ := hnt.uniq h
 have l1 : NM.length = N.length := by rw [← q1, ndx_len]
 have l2 : LM.length = L.length := by rw [← q2, lkx_len]
 rw [l1] at hnd
 rw [l2] at hlk
 exact ⟨NM, LM, NA, LA, cn, cl, q1, q2, by rw [l1, l2]; rfl, hnd, hlk, hb⟩
theorem parse_form (s : ByteArray) (k : Nat) (h : NtIs netV s.data.toList [] [] k 7) (hk : k ≠ 0) (hs : s.size ≤ 262144) (hf : (rln s.data.toList).length ≤ 2000) (w : World) (hE : Env w) :
 Calls Tryz.prog 45 #[.string s] w fun e w' => (∃ (NA LA : Option Addr) (cn cl : Nat), e = .returned (.tuple #[.agg #[.slice NA 0 cn, .slice LA 0 cl], .agg #[.int .i64 (k : Int), .int .i64 1], .int .i64 7])) ∧ Below w.heap.size w w' := by
 refine (tnparse s (by omega) (fun N' L' h' => runs_few2 hf h') w hE).mono ?_
 rintro e w' ⟨NM, LM, k', er, NA, LA, cn, cl, hnt, rfl, hnd, hlk, hb⟩
 obtain ⟨q1, q2, rfl, rfl⟩ := hnt.uniq h
 have l1 : NM.length = 0 := by rw [← ndx_len, q1]; rfl
 have l2 : LM.length = 0 := by rw [← lkx_len, q2]; rfl
 rw [l1, l2, posN_cells _ hk]
 exact ⟨⟨NA, LA, cn, cl, rfl⟩, hb⟩
end Go.Proofs.YtghefgifhebniaaGreatDoor
namespace Go.Proofs.YtghefgifhebniaaGreatDoor
open Go.RowKit Go.Sort
set_option linter.unusedVariables false
set_option linter.unusedSimpArgs false
theorem lg_few {D : Nds} {K : Lks} {n m : Nat} (hl : ¬ lgP D n K m) (hP : netP D n K m) : n ≤ 40 ∧ m ≤ 60 := by
 have h1 := hP.1
 have h2 := hP.2.1
 have := lg_not hl
 omega
theorem spa_cell {w : World} {g : Nat} {ls : List (List UInt8)} (h : Blk w g 9 (spaC ls)) {j : Nat} {l : List UInt8} (hj : ls[j]? = some l) : w.cell? ⟨g, j, none⟩ = some (.string (baL l)) := by
 rw [h.cell j]
 have hlt := (List.getElem?_eq_some_iff.1 hj).1
 unfold spaC
 rw [List.getElem?_toArray, List.getElem?_append_left (by simpa using hlt), List.getElem?_map, hj]
 rfl
theorem spa_set {ls : List (List UInt8)} {j : Nat} {x : List UInt8} (hj : j < ls.length) : (spaC ls).setIfInBounds j (.string (baL x)) = spaC (ls.set j x) := by
 unfold spaC
 apply Array.ext'
 rw [Array.toList_setIfInBounds]
 show ((ls.map _ ++ _).set j _) = _
 rw [List.set_append_left _ _ (by simpa using hj)]
 simp [List.map_set]
theorem ntis_runs {V : List Ndr → List Lkr → Prop} {s : List UInt8} {N : List Ndr} {L : List Lkr} {k : Nat} {e : Int} (h : NtIs V s N L k e) (he : e = 0) : Runs [] [] (rln s) N L := by
 cases h with
 | full => exact absurd he (by decide)
 | form => exact absurd he (by decide)
 | arg => exact absurd he (by decide)
 | ok _ _ _ hr => exact hr
theorem set_ok {ls : List (List UInt8)} {v : Nat} {l : List UInt8} (h : ∀ x, x ∈ ls → lineOK x) (hl : ls[v]? = some l) : ∀ x, x ∈ ls.set v (120 :: l) → lineOK x := by
 intro x hx
 rcases List.mem_or_eq_of_mem_set hx with hx | rfl
 · exact h x hx
 · obtain ⟨a, ha, hn⟩ := h l (List.mem_of_getElem? hl)
   refine ⟨120 :: a, by rw [ha]; rfl, fun hc => ?_⟩
   rcases List.mem_cons.1 hc with hc | hc
   · revert hc; decide
   · exact hn hc
theorem set_len {ls : List (List UInt8)} {v : Nat} {l : List UInt8} (hl : ls[v]? = some l) : (ls.set v (120 :: l)).flatten.length = ls.flatten.length + 1 := by
 obtain ⟨hv, e⟩ := List.getElem?_eq_some_iff.1 hl
 have e1 : ls = ls.take v ++ l :: ls.drop (v + 1) := by
  conv => lhs; rw [← List.take_append_drop v ls]
  rw [List.drop_eq_getElem_cons hv, e]
 rw [List.set_eq_take_append_cons_drop, if_pos hv]
 conv => rhs; rw [e1]
 simp only [List.flatten_append, List.flatten_cons, List.length_append, List.length_cons]
 omega
theorem x_ahead (l : List UInt8) : (⟨#[120]⟩ : ByteArray) ++ baL l = baL (120 :: l) := by
 apply ByteArray.ext
 apply Array.ext'
 rw [ByteArray.data_append]
 simp [baL]
theorem tmodN (a b : Nat) : Int.tmod (a : Int) (b : Int) = ((a % b : Nat) : Int) := (Int.ofNat_tmod a b).symm
set_option maxRecDepth 100000 in
set_option maxHeartbeats 8000000 in
theorem netlines (NA LA : Option Addr) (n nc m lc : Nat) (D : Nds) (K : Lks) (i k : Nat) (hi : i ≤ 255) (hk : k ≤ 255) (w : World) (hD : NdIn w NA n D) (hK : LkIn w LA m K) (hE : Env w) :
 Calls Tryz.prog 12 #[.agg #[.slice NA n nc, .slice LA m lc], .int .u8 (i : Int), .int .u8 (k : Int)] w fun e w' => e = .returned (.bool true) ∧ Below w.heap.size w w' := by
 have hal : Below w.heap.size w (w.alloc (Obj.cells #[.slice NA n nc, .slice LA m lc] 25)) := (Below.refl _ w).alloc (Nat.le_refl _) _
 have HAL := Lib.hid hal
 have HB0 : Hid (Blk (w.alloc (Obj.cells #[.slice NA n nc, .slice LA m lc] 25)) w.heap.size 25 #[.slice NA n nc, .slice LA m lc]) := Blk.new _ _ _
 have HE0 := Lib.hid (hE.below hal)
 have HE := Lib.hid hE
 have HD := Lib.hid hD
 have HK := Lib.hid hK
 have HI2 := Lib.hid hi
 have HK2 := Lib.hid hk
 clear hD hK hE hal hi hk
 obtain ⟨V, hV⟩ : ∃ V, Hid (V = boolOf (lgP D n K m)) := ⟨_, rfl⟩
 go_enter Tryz.func12, Tryz.ntmps12
 go_upto_region 3 with (first
  | (go_at_call 14
     with_reducible refine (awake26 _ HE0.out).mono ?_
     rintro e w1 ⟨rfl, hb1⟩
     have HB1 := Lib.hid (below_step HAL.out hb1)
     have HBB := Lib.hid (HB0.out.call hb1)
     clear hb1))
 obtain ⟨y0, y1⟩ := blk2 HBB.out
 have SL : Hid (Calls Tryz.prog 15 #[.agg #[.slice NA n nc, .slice LA m lc]] w1 fun e w' => e = .returned (.bool V) ∧ Below w1.heap.size w1 w') := by rw [hV.out]; exact tlarge NA LA n nc m lc D K w1 (HD.out.below (Nat.le_refl _) HB1.out) (HK.out.below (Nat.le_refl _) HB1.out)
 by_cases hl : lgP D n K m
 · obtain rfl : V = true := hV.out.trans (boolOf_true hl)
   clear hl hV
   go_wp2_with (first
    | (go_at_call 15
       with_reducible refine SL.out.mono ?_
       rintro e w2 ⟨rfl, hb2⟩
       have HB2 := Lib.hid (below_step HB1.out hb2)
       clear hb2))
   go_ret
   exact ⟨rfl, HB2.out⟩
 obtain rfl : V = false := hV.out.trans (boolOf_false hl)
 have HZ := Lib.hid (lg_sz hl)
 have SV : Hid (∀ w', Below w.heap.size w w' → Calls Tryz.prog 18 #[.agg #[.slice NA n nc, .slice LA m lc]] w' fun e w'' => e = .returned (.bool (boolOf (netP D n K m))) ∧ Below w'.heap.size w' w'') := fun w' hb => wvalidN NA LA n nc m lc D K HZ.out w' (HD.out.below (Nat.le_refl _) hb) (HK.out.below (Nat.le_refl _) hb)
 by_cases hP : netP D n K m
 case neg =>
  rw [boolOf_false hP] at SV
  clear hP hl hV
  go_wp2_with (first
   | (go_at_call 15
      with_reducible refine SL.out.mono ?_
      rintro e w2 ⟨rfl, hb2⟩
      have HB2 := Lib.hid (below_step HB1.out hb2)
      have HX2 := Lib.hid (HBB.out.call hb2)
      obtain ⟨y0, y1⟩ := blk2 HX2.out
      clear hb2)
   | (go_at_call 18
      with_reducible refine (SV.out _ HB2.out).mono ?_
      rintro e w5 ⟨rfl, hb2⟩
      have HB5 := Lib.hid (below_step HB2.out hb2)
      clear hb2))
  go_ret
  exact ⟨rfl, HB5.out⟩
 rw [boolOf_true hP] at SV
 obtain ⟨h40, h60⟩ := lg_few hl hP
 have hv := netV_of hP
 obtain ⟨N, hN⟩ : ∃ N, recN D n = N := ⟨_, rfl⟩
 obtain ⟨L, hL⟩ : ∃ L, recL K m = L := ⟨_, rfl⟩
 have hNl : N.length = n := by rw [← hN, recN_len]
 have hLl : L.length = m := by rw [← hL, recL_len]
 rw [hN, hL] at hv
 have ST : Hid (∀ w', Below w.heap.size w w' → Calls Tryz.prog 47 #[.agg #[.slice NA n nc, .slice LA m lc]] w' fun e w'' => e = .returned (.tuple #[.string (baL (netT N L)), .int .i64 0]) ∧ Below w'.heap.size w' w'') := fun w' hb => by
  have := tntext NA LA n nc m lc D K HZ.out hP h40 h60 w' (HE.out.below hb) (HD.out.below (Nat.le_refl _) hb) (HK.out.below (Nat.le_refl _) hb)
  rw [hN, hL] at this
  exact this
 have hsm := netT_small hv (by omega) (by omega)
 obtain ⟨T, hT⟩ : ∃ T, baL (netT N L) = T := ⟨_, rfl⟩
 have hTs : T.size = (netT N L).length := by rw [← hT]; rfl
 rw [hT] at ST
 clear hl hV hP hN hL
 by_cases hbig : 262134 < T.size
 · have T0 : decide ((262134 : Int) < (T.size : Int)) = true := decide_eq_true (by omega)
   have T0' : decide (262134 < T.size) = true := decide_eq_true hbig
   clear hbig hTs hT hsm hv h40 h60 hNl hLl
   go_wp2_with (first
    | (go_at_call 15
       with_reducible refine SL.out.mono ?_
       rintro e w2 ⟨rfl, hb2⟩
       have HB2 := Lib.hid (below_step HB1.out hb2)
       have HX2 := Lib.hid (HBB.out.call hb2)
       obtain ⟨y0, y1⟩ := blk2 HX2.out
       clear hb2)
    | (go_at_call 18
       with_reducible refine (SV.out _ HB2.out).mono ?_
       rintro e w5 ⟨rfl, hb2⟩
       have HB5 := Lib.hid (below_step HB2.out hb2)
       have HX5 := Lib.hid (HX2.out.call hb2)
       obtain ⟨y0, y1⟩ := blk2 HX5.out
       clear hb2)
    | (go_at_call 47
       with_reducible refine (ST.out _ HB5.out).mono ?_
       rintro e w6 ⟨rfl, hb2⟩
       have HB6 := Lib.hid (below_step HB5.out hb2)
       clear hb2))
   go_ret
   exact ⟨rfl, HB6.out⟩
 have T0 : decide ((262134 : Int) < (T.size : Int)) = false := decide_eq_false (by omega)
 have T0' : decide (262134 < T.size) = false := decide_eq_false hbig
 obtain ⟨ls, hls⟩ : ∃ ls, netLn N L = ls := ⟨_, rfl⟩
 have hlen : ls.length = n + m := by rw [← hls, netLn_len, hNl, hLl]
 have hok : ∀ l, l ∈ ls → lineOK l := by rw [← hls]; exact netLn_ok (netV_forms hv).1 (netV_forms hv).2
 have hTb : T = baL ls.flatten := by rw [← hT, ← hls]; rfl
 have SP : Hid (∀ w', Calls Tryz.prog 49 #[.string T, .string ⟨#[10]⟩] w' fun e w'' => e = .returned (.slice (some ⟨w'.heap.size, 0, none⟩) (n + m + 1) (n + m + 1)) ∧ w'' = w'.alloc (.cells (spaC ls) 9)) := fun w' => by
  rw [hTb, ← hlen]
  exact tsplita ls hok (by rw [← hls]; exact Nat.le_trans hsm (by omega)) w'
 -- without the last links
 obtain ⟨j, hj⟩ : ∃ j, i % (m + 1) = j := ⟨_, rfl⟩
 have hjm : j ≤ m := by rw [← hj]; have := Nat.mod_lt i (show 0 < m + 1 by omega); omega
 have hf1 : ((ls.take (n + j)).flatten).length ≤ 262144 := by
  have := flat_take_le ls (n + j)
  rw [← hls] at this ⊢
  exact Nat.le_trans this hsm
 have hp1 : NtIs netV (ls.take (n + j)).flatten N (L.take j) 0 0 := by
  rw [← hls, ← hNl]; exact ntis_cut hv (by omega) hsm
 have hr1 : Runs [] [] (rln (ls.take (n + j)).flatten) N (L.take j) := by
  exact ntis_runs hp1 rfl
 have hLt : (L.take j).length = j := by rw [List.length_take]; omega
 have SQ : Hid (∀ w', Below w.heap.size w w' → Calls Tryz.prog 45 #[.string (baL (ls.take (n + j)).flatten)] w' fun e w'' => (∃ (NA LA : Option Addr) (cn cl : Nat), e = .returned (.tuple #[.agg #[.slice NA n cn, .slice LA j cl], .agg #[.int .i64 0, .int .i64 0], .int .i64 0])) ∧ Below w'.heap.size w' w'') := fun w' hb => by
  refine (parse_net (baL (ls.take (n + j)).flatten) N (L.take j) hp1 hf1 (by omega) (by omega) hr1 w' (HE.out.below hb)).mono ?_
  rintro e w'' ⟨NM, LM, NA, LA, cn, cl, _, _, rfl, _, _, hb'⟩
  exact ⟨⟨NA, LA, cn, cl, by rw [hNl, hLt]⟩, hb'⟩
 have SJ : Hid (∀ (g : Nat) (w' : World), Blk w' g 9 (spaC ls) → Calls Tryz.prog 50 #[.slice (some ⟨g, 0, none⟩) (n + j) (n + m + 1), .string ⟨#[]⟩] w' fun e w'' => e = .returned (.string (baL (ls.take (n + j)).flatten)) ∧ Below w'.heap.size w' w'') := fun g w' hb => by
  have hl2 : (ls.take (n + j)).length = n + j := by rw [List.length_take]; omega
  have := tjoin0 g 0 (n + m + 1) (ls.take (n + j)) (by omega) (by omega) (by omega) w' hb.lt (fun q l hq => by
   rw [Nat.zero_add]
   refine spa_cell hb (l := l) ?_
   rw [List.getElem?_take] at hq
   split at hq
   · exact hq
   · cases hq)
  rw [hl2] at this
  exact this
 obtain ⟨kk, hkk⟩ : ∃ kk, n + j = kk := ⟨_, rfl⟩
 obtain ⟨q, hq⟩ : ∃ q, n + m = q := ⟨_, rfl⟩
 obtain ⟨q1, hq1⟩ : ∃ q1, q + 1 = q1 := ⟨_, rfl⟩
 rw [hkk] at SQ SJ hf1 hp1 hr1
 rw [hq, hq1] at SP SJ
 rw [hq] at hlen
 have e1 : IntKind.i64.wrap ((q1 : Int) - 1) = (q : Int) := by rw [IntKind.wrap_i64]; omega
 have e2 : IntKind.i64.wrap ((n : Int) + (m : Int)) = (q : Int) := by rw [IntKind.wrap_i64]; omega
 have HI3 := HI2.out
 have HK3 := HK2.out
 have e3 : IntKind.i64.wrap (i : Int) = (i : Int) := by rw [IntKind.wrap_i64]; omega
 obtain ⟨m1, hm1⟩ : ∃ m1, m + 1 = m1 := ⟨_, rfl⟩
 have e4 : IntKind.i64.wrap ((m : Int) + 1) = (m1 : Int) := by rw [IntKind.wrap_i64]; omega
 have e5 : Int.tmod (i : Int) (m1 : Int) = (j : Int) := by rw [tmodN, ← hm1, hj]
 have e6 : IntKind.i64.wrap (j : Int) = (j : Int) := by rw [IntKind.wrap_i64]; omega
 have e7 : IntKind.i64.wrap ((n : Int) + (j : Int)) = (kk : Int) := by rw [IntKind.wrap_i64]; omega
 have e8 : IntKind.i64.wrap ((kk : Int) - (n : Int)) = (j : Int) := by rw [IntKind.wrap_i64]; omega
 have e9 : ¬ ((m1 : Int) = 0) := by omega
 have e9' : ((m1 : Int) == 0) = false := by simp <;> omega
 have r1 : (0 : Int) ≤ (q : Int) := by omega
 have r2 : q ≤ q1 := by omega
 have r2' : (q : Int) ≤ (q1 : Int) := by omega
 have r3 : (0 : Int) ≤ (kk : Int) := by omega
 have r4 : kk ≤ q1 := by omega
 have r5 : (kk : Int) ≤ (q1 : Int) := by omega
 have t1 : ((q : Int) != (q : Int)) = false := by simp
 have t2 : ((n : Int) != (n : Int)) = false := by simp
 have t3 : ((j : Int) != (j : Int)) = false := by simp
 obtain ⟨lsk, hlsk⟩ : ∃ z, baL (ls.take kk).flatten = z := ⟨_, rfl⟩
 rw [hlsk] at SQ SJ
 have HSM := Lib.hid hsm
 have HV2 := Lib.hid hv
 have HLS := Lib.hid hls
 have HLEN := Lib.hid hlen
 have HOK := Lib.hid hok
 have HBIG := Lib.hid hbig
 have HTS := Lib.hid hTs
 have HNM : Hid (n ≤ 40 ∧ m ≤ 60 ∧ N.length = n ∧ L.length = m ∧ n + m = q ∧ q + 1 = q1 ∧ n + j = kk ∧ j ≤ m) := ⟨h40, h60, hNl, hLl, hq, hq1, hkk, hjm⟩
 clear hsm hv hls hlen hok hbig hTs h40 h60 hNl hLl hq hq1 hkk hjm hTb hT hf1 hp1 hr1 hLt hj hm1 hlsk
 go_upto_region 9 with (first
  | (go_at_call 15
     with_reducible refine SL.out.mono ?_
     rintro e w2 ⟨rfl, hb2⟩
     have HB2 := Lib.hid (below_step HB1.out hb2)
     have HX2 := Lib.hid (HBB.out.call hb2)
     obtain ⟨y0, y1⟩ := blk2 HX2.out
     clear hb2)
  | (go_at_call 18
     with_reducible refine (SV.out _ HB2.out).mono ?_
     rintro e w5 ⟨rfl, hb2⟩
     have HB5 := Lib.hid (below_step HB2.out hb2)
     have HX5 := Lib.hid (HX2.out.call hb2)
     obtain ⟨y0, y1⟩ := blk2 HX5.out
     clear hb2)
  | (go_at_call 47
     with_reducible refine (ST.out _ HB5.out).mono ?_
     rintro e w6 ⟨rfl, hb2⟩
     have HB6 := Lib.hid (below_step HB5.out hb2)
     have HX6 := Lib.hid (HX5.out.call hb2)
     clear hb2)
  | (go_at_call 49
     with_reducible refine (SP.out _).mono ?_
     rintro e w7 ⟨rfl, rfl⟩))
 obtain ⟨g, hg⟩ : ∃ g, w6.heap.size = g := ⟨_, rfl⟩
 have HG7 : Hid (Blk (w6.alloc (.cells (spaC ls) 9)) g 9 (spaC ls)) := by
  show Blk _ _ _ _
  rw [← hg]; exact Blk.new _ _ _
 have HX7 := Lib.hid (HX6.out.alloc (.cells (spaC ls) 9))
 have HB7 := Lib.hid (HB6.out.alloc HB6.out.size (.cells (spaC ls) 9))
 have HGW : Hid (w.heap.size < g) := by have := HX6.out.lt; show _ < _; omega
 try rw [hg]
 clear SV SL SP ST HB1 HBB HB2 HX2 HB5 HX5 HB6 HX6 y0 y1 HE0 HAL HB0 hg T0 T0'
 generalize w6.alloc (.cells (spaC ls) 9) = w7 at HG7 HX7 HB7 ⊢
 obtain ⟨y0, y1⟩ := blk2 HX7.out
 go_upto_region 12 with fail
 go_quiet (fail)
 have HBq : Hid (Below w.heap.size w (w7.drewN nq)) := below_drewN HB7.out _
 have HXq : Hid (Blk (w7.drewN nq) w.heap.size 25 #[.slice NA n nc, .slice LA m lc]) := HX7.out.drewN _
 have HGq : Hid (Blk (w7.drewN nq) g 9 (spaC ls)) := HG7.out.drewN _
 clear HB7 HX7 HG7 y0 y1
 generalize w7.drewN nq = w8 at HBq HXq HGq ⊢
 obtain ⟨y0, y1⟩ := blk2 HXq.out
 have SJ1 := Lib.hid (SJ.out g w8 HGq.out)
 go_upto_region 14 with (first
  | (go_at_call 50
     with_reducible refine SJ1.out.mono ?_
     rintro e w9 ⟨rfl, hb2⟩
     have HB9 := Lib.hid (below_step HBq.out hb2)
     have HX9 := Lib.hid (HXq.out.call hb2)
     have HG9 := Lib.hid (HGq.out.call hb2)
     clear hb2)
  | (go_at_call 45
     with_reducible refine (SQ.out _ HB9.out).mono ?_
     rintro e wa ⟨⟨PA, QA, pc, qc, rfl⟩, hb2⟩
     have HBa := Lib.hid (below_step HB9.out hb2)
     have HXa := Lib.hid (HX9.out.call hb2)
     have HGa := Lib.hid (HG9.out.call hb2)
     clear hb2))
 have hal2 : Below wa.heap.size wa ((wa.alloc (.cells #[.slice PA n pc, .slice QA j qc] 25)).alloc (.cells #[.int .i64 0, .int .i64 0] 73)) := ((Below.refl _ wa).alloc (Nat.le_refl _) _).alloc (by simp) _
 have HBb := Lib.hid (below_step HBa.out hal2)
 have HXb := Lib.hid (HXa.out.call hal2)
 have HGb := Lib.hid (HGa.out.call hal2)
 have HNb := Lib.hid ((Blk.new wa 25 #[.slice PA n pc, .slice QA j qc]).alloc (.cells #[.int .i64 0, .int .i64 0] 73))
 clear hal2 HBa HXa HGa HB9 HX9 HG9 HBq HXq HGq y0 y1 SJ1 SQ SJ
 generalize (wa.alloc (.cells #[.slice PA n pc, .slice QA j qc] 25)).alloc (.cells #[.int .i64 0, .int .i64 0] 73) = wb at HBb HXb HGb HNb ⊢
 generalize wa.heap.size = G at HNb ⊢
 obtain ⟨y0, y1⟩ := blk2 HXb.out
 obtain ⟨z0, z1⟩ := blk2 HNb.out
 by_cases hq0 : q = 0
 · have T4 : ((q : Int) == 0) = true := by simp; omega
   have T4' : decide (q = 0) = true := decide_eq_true hq0
   clear hq0
   go_wp2_with fail
   go_ret
   exact ⟨rfl, HBb.out⟩
 have T4 : ((q : Int) == 0) = false := by simp; omega
 have T4' : decide (q = 0) = false := decide_eq_false hq0
 obtain ⟨v, hv⟩ : ∃ v, k % q = v := ⟨_, rfl⟩
 have hvq : v < q := by rw [← hv]; exact Nat.mod_lt k (by omega)
 have f1 : IntKind.i64.wrap (k : Int) = (k : Int) := by rw [IntKind.wrap_i64]; omega
 have f2 : Int.tmod (k : Int) (q : Int) = (v : Int) := by rw [tmodN, hv]
 have f3 : IntKind.i64.wrap (v : Int) = (v : Int) := by have := HNM.out; rw [IntKind.wrap_i64]; omega
 have f4 : ¬ ((q : Int) = 0) := by omega
 have f5 : (0 : Int) ≤ (v : Int) := by omega
 have f6 : (v : Int) < (q : Int) := by omega
 obtain ⟨lv, hlv⟩ : ∃ lv, ls[v]? = some lv := ⟨_, List.getElem?_eq_getElem (by rw [HLEN.out]; exact hvq)⟩
 obtain ⟨ls2, hls2⟩ : ∃ ls2, ls.set v (120 :: lv) = ls2 := ⟨_, rfl⟩
 have hfl : ls2.flatten.length ≤ 262135 := by
  rw [← hls2, set_len hlv]
  have h1 := HTS.out
  have h2 := HBIG.out
  have h3 : ls.flatten.length = (netT N L).length := by rw [← HLS.out]; rfl
  omega
 have hok2 : ∀ x, x ∈ ls2 → lineOK x := by rw [← hls2]; exact set_ok HOK.out hlv
 have hnt : NtIs netV (baL ls2.flatten).data.toList [] [] (v + 1) 7 := by
  have h1 := HTS.out
  have h2 := HBIG.out
  have h3 := ntis_x (k := v) (l := lv) HV2.out (by omega) (by rw [HLS.out]; exact hlv)
  rw [HLS.out, hls2] at h3
  exact h3
 have hl2 : ls2.length = q := by rw [← hls2, List.length_set]; exact HLEN.out
 have hrl : (rln (baL ls2.flatten).data.toList).length ≤ 2000 := by
  show (rln ls2.flatten).length ≤ 2000
  rw [rln_flat ls2 hok2, hl2]
  have := HNM.out; omega
 have SQ : Hid (∀ w', Below w.heap.size w w' → Calls Tryz.prog 45 #[.string (baL ls2.flatten)] w' fun e w'' => (∃ (NA LA : Option Addr) (cn cl : Nat), e = .returned (.tuple #[.agg #[.slice NA 0 cn, .slice LA 0 cl], .agg #[.int .i64 ((v + 1 : Nat) : Int), .int .i64 1], .int .i64 7])) ∧ Below w'.heap.size w' w'') := fun w' hb => parse_form (baL ls2.flatten) (v + 1) hnt (by omega) (by show ls2.flatten.length ≤ _; omega) hrl w' (HE.out.below hb)
 have SJ : Hid (∀ (w' : World), Blk w' g 9 (spaC ls2) → Calls Tryz.prog 50 #[.slice (some ⟨g, 0, none⟩) q q1, .string ⟨#[]⟩] w' fun e w'' => e = .returned (.string (baL ls2.flatten)) ∧ Below w'.heap.size w' w'') := fun w' hb => by
  have := tjoin0 g 0 q1 ls2 (by have := HNM.out; omega) (by omega) (by have := HNM.out; omega) w' hb.lt (fun p l hp => by
   rw [Nat.zero_add]
   exact spa_cell hb hp)
  rw [hl2] at this
  exact this
 obtain ⟨v1, hv1⟩ : ∃ v1, v + 1 = v1 := ⟨_, rfl⟩
 rw [hv1] at SQ
 have f7 : IntKind.i64.wrap ((v : Int) + 1) = (v1 : Int) := by have := HNM.out; rw [IntKind.wrap_i64]; omega
 have hc0 := spa_cell HGb.out hlv
 have hfz := HGb.out.frozen v
 have hlt := HGb.out.lt
 have hxz : (⟨#[120]⟩ : ByteArray) ++ baL lv = baL (120 :: lv) := x_ahead lv
 have hls3 : (spaC ls).setIfInBounds v (.string (baL (120 :: lv))) = spaC ls2 := by rw [← hls2]; exact spa_set (by rw [HLEN.out]; exact hvq)
 have hsz1 : (((baL lv).size : Nat) : Int) ≤ 8388608 := by
  have h1 : lv.length ≤ ls.flatten.length := by
   obtain ⟨hv', e⟩ := List.getElem?_eq_some_iff.1 hlv
   have e1 : ls = ls.take v ++ lv :: ls.drop (v + 1) := by
        conv => lhs; rw [← List.take_append_drop v ls]
        rw [List.drop_eq_getElem_cons hv', e]
   conv => rhs; rw [e1]
   rw [List.flatten_append, List.flatten_cons, List.length_append, List.length_append]
   omega
  have h3 : ls.flatten.length = (netT N L).length := by rw [← HLS.out]; rfl
  have h4 := HTS.out
  have h5 := HBIG.out
  show ((lv.length : Nat) : Int) ≤ _
  omega
 generalize hbv : baL lv = bv at hc0 hxz hsz1
 generalize hbw : baL (120 :: lv) = bw at hxz hls3
 have hlm : ¬ 9223372036854775807 < 1 + bv.size := by omega
 generalize baL ls2.flatten = bf at SQ SJ
 clear hq0 hv hls2 hfl hok2 hnt hl2 hrl hv1 hbv hbw HTS HBIG HSM HLS HV2 HOK
 go_upto_region 20 with fail
 have HBc := Lib.hid (HBb.out.setCell (p := ⟨g, v, none⟩) (Nat.le_of_lt HGW.out) (.string bw))
 have HGc : Hid (Blk (wb.setCell ⟨g, v, none⟩ (.string bw)) g 9 (spaC ls2)) := by
  have := HGb.out.set_ v (.string bw)
  rw [hls3] at this
  exact this
 clear HBb HGb HXb HNb y0 y1 z0 z1 hc0 hfz hlt hxz hls3 hsz1 hlm
 generalize wb.setCell ⟨g, v, none⟩ (.string bw) = wc at HBc HGc ⊢
 have SJ1 := Lib.hid (SJ.out wc HGc.out)
 go_wp2_with (first
  | (go_at_call 50
     with_reducible refine SJ1.out.mono ?_
     rintro e wd ⟨rfl, hb2⟩
     have HBd := Lib.hid (below_step HBc.out hb2)
     clear hb2)
  | (go_at_call 45
     with_reducible refine (SQ.out _ HBd.out).mono ?_
     rintro e we ⟨⟨RA, SA, rc, sc, rfl⟩, hb2⟩
     have HBe := Lib.hid (below_step HBd.out hb2)
     clear hb2))
 go_ret
 exact ⟨by first | rfl | simp, (HBe.out.alloc HBe.out.size _).alloc (by have := HBe.out.size; simp; omega) _⟩
end Go.Proofs.YtghefgifhebniaaGreatDoor

/- digraph.next: what is next to each node. -/
import Derived.Test.YtghefgifhebniaaGreatDoorMgN
import Derived.Test.YtghefgifhebniaaGreatDoorNetE
namespace Go.Proofs.YtghefgifhebniaaGreatDoor
open Go.RowKit Go.Sort
set_option linter.unusedVariables false
set_option linter.unusedSimpArgs false
theorem infoI : (Tryz.prog.info? 3).map (fun i => (i.zero, i.size, i.bytes)) = some (some (.int .i64 0), 1, 8) := by kernel_rfl
theorem infoIs : (Tryz.prog.info? 32).map (fun i => (i.zero, i.size, i.bytes)) = some (some (.slice none 0 0), 1, 24) := by kernel_rfl
theorem h63_n {n : Nat} (h : n ≤ 2000) : n + 1 ≤ maxLen := by simp only [maxLen]; omega
theorem hby_n {n : Nat} (h : n ≤ 2000) : (n + 1) * 8 ≤ 140737488355328 := by omega
def NextPost (n : Nat) (X Y : Nat → Int) (m : Nat) (w : World) (e : Ending) (w' : World) : Prop := ∃ b, e = .returned (.slice (some ⟨b, 0, none⟩) n n) ∧ w.heap.size ≤ b ∧ AfIn w' b n (fun i => nx X Y m (i : Int)) ∧ Below w.heap.size w w'
theorem two_cells {w : World} {g : Nat} {t : TypeId} {a b : Value} (h : Blk w g t #[a, b]) : w.cell? ⟨g, 0, none⟩ = some a ∧ w.cell? ⟨g, 1, none⟩ = some b := ⟨h.cell 0, h.cell 1⟩
set_option maxRecDepth 100000 in
set_option maxHeartbeats 4000000 in
theorem dnext (A : Option Addr) (n m c : Nat) (X Y : Nat → Int) (w : World) (hn : n ≤ 300) (hm : m ≤ 1000) (hE : EdOK n X Y m) (ht : TabIn w A m X Y) :
 Calls Tryz.prog 92 #[.int .i64 n, .slice A m c] w (NextPost n X Y m w) := by
 obtain ⟨i0, hi0, hz0, hz1, hz2⟩ := info_parts1 infoI
 have HI0 := Lib.hid hi0
 have HZ0 := Lib.hid hz0
 have HZ1 := Lib.hid hz1
 have HZ2 := Lib.hid hz2
 have HN := Lib.hid hn
 have HM := Lib.hid hm
 have HE := Lib.hid hE
 have HT := Lib.hid ht
 have hmk := mk_run 124 32 n 24 (.slice none 0 0) infoIs Tryz.underlying124 rfl (by omega) (by omega)
 obtain ⟨Z, hZ⟩ : ∃ Z, ((List.range n).map fun _ => Value.slice none 0 0).toArray = Z := ⟨_, rfl⟩
 rw [hZ] at hmk
 have HZ := Lib.hid hZ
 clear hi0 hz0 hz1 hz2 hn hm hE ht hZ
 go_enter Tryz.func92, Tryz.ntmps92
 go_wp2_with fail
 clear hmk
 have HR0 : Hid (NRow (w.heap.size + 1) (w.alloc (Obj.cells Z 32)) w.heap.size n (fun _ => .slice none 0 0) (fun i => tgt X Y 0 (i : Int))) := by
  refine ⟨?_, by omega, fun i hi => World.ownsRow_nil _ _ _ _, fun i j g hi hj e => ?_⟩
  · rw [HZ.out]; exact Blk.new _ _ _
  · simp [Value.ownBlock] at e
 go_loopw [13] (fun x wr => ∃ (k : Nat) (V : Nat → Value), x = .int .i64 k ∧ Hid (k ≤ m) ∧ Hid (NRow (w.heap.size + 1) wr w.heap.size n V (fun i => tgt X Y k (i : Int))) ∧ Hid (Below w.heap.size w wr)) (fun x _ => m - (RowKit.intOf x).toNat)
 case atStart => exact ⟨0, _, rfl, Nat.zero_le _, HR0, (Below.refl _ w).alloc (Nat.le_refl _) _⟩
 case round =>
  obtain ⟨k, V, rfl, Hk, HR, HW⟩ := hrel
  by_cases hlt : k < m
  · have T0 : decide ((k : Int) < (m : Int)) = true := by simp <;> omega
    have T0' : decide (k < m) = true := decide_eq_true hlt
    obtain ⟨k', hk'⟩ : ∃ z, z = k + 1 := ⟨_, rfl⟩
    have x0 : IntKind.i64.wrap ((k : Int) + 1) = (k' : Int) := by have := HM.out; rw [IntKind.wrap_i64]; omega
    have HK' : Hid (k' ≤ m ∧ k' = k + 1) := ⟨by omega, hk'⟩
    have HMS : Hid (m - (RowKit.intOf (Value.int .i64 (k' : Int))).toNat < m - (RowKit.intOf (Value.int .i64 (k : Int))).toNat) := by show _ < _; simp [RowKit.intOf]; omega
    have k0 : (0 : Int) ≤ (k : Int) := by omega
    have k1 : (k : Int) < (m : Int) := by omega
    obtain ⟨b, off, hA, hb, c0, c1⟩ := (HT.out.below (Nat.le_refl _) HW.out).at hlt
    subst hA
    have hx := HE.out.x k hlt
    obtain ⟨x, hxx⟩ : ∃ x : Nat, X k = (x : Int) := ⟨(X k).toNat, by omega⟩
    obtain ⟨y, hyy⟩ : ∃ y : Int, Y k = y := ⟨_, rfl⟩
    rw [hxx] at c0
    rw [hyy] at c1
    have hxn : x < n := by omega
    have HXX : Hid (X k = (x : Int) ∧ Y k = y) := ⟨hxx, hyy⟩
    have x1 : (0 : Int) ≤ (x : Int) := by omega
    have x2 : (x : Int) < (n : Int) := by omega
    obtain ⟨vx, hvx⟩ : ∃ v, V x = v := ⟨_, rfl⟩
    have HVX := Lib.hid hvx
    have hk2 : tgt X Y k (x : Int) = tgt X Y k (x : Int) := rfl
    obtain ⟨N, hN⟩ : ∃ N, (tgt X Y k (x : Int)).length = N := ⟨_, rfl⟩
    have HNN := Lib.hid hN
    have HN2 : Hid (N ≤ 2000) := by show N ≤ 2000; have := tgt_len X Y k (x : Int); have := HM.out; have := Hk.out; omega
    clear hk' hxx hyy hx hvx hk2 hN
    go_upto_region 5 with fail
    have hal : Below wr.heap.size wr (wr.alloc (Obj.cells #[.int .i64 (x : Int), .int .i64 y] 38)) := (Below.refl _ wr).alloc (Nat.le_refl _) _
    have HBG : Hid (Blk (wr.alloc (Obj.cells #[.int .i64 (x : Int), .int .i64 y] 38)) wr.heap.size 38 #[.int .i64 (x : Int), .int .i64 y]) := Blk.new _ _ _
    have HR4 := Lib.hid (HR.out.call hal)
    have HW4 := Lib.hid (below_step HW.out hal)
    have HSZ : Hid (w.heap.size < wr.heap.size) := HR.out.blk.lt
    clear hal c0 c1 hb HR HW
    generalize wr.alloc (Obj.cells _ 38) = w4 at HBG HR4 HW4 ⊢
    generalize wr.heap.size = G at HBG HSZ ⊢
    have HXN := Lib.hid hxn
    have hr := HR4.out.row x hxn
    rw [HVX.out, HNN.out] at hr
    have HO := Lib.hid hr
    have hs0 : w4.cell? ⟨G, 0, none⟩ = some (.int .i64 (x : Int)) ∧ w4.cell? ⟨G, 1, none⟩ = some (.int .i64 y) := two_cells HBG.out
    have c4 : w4.cell? ⟨w.heap.size, x, none⟩ = some vx := by rw [HR4.out.cell hxn, HVX.out]
    have c5 : (w4.alloc (Obj.cells #[.int .i64 y] 3)).cell? ⟨w.heap.size, x, none⟩ = some vx := (((Below.refl w4.heap.size w4).alloc (Nat.le_refl _) _).cell (p := ⟨w.heap.size, x, none⟩) HR4.out.blk.lt).trans c4
    have HS : Hid (∀ w', Below w4.heap.size w4 w' → w'.cell? ⟨G, 0, none⟩ = some (.int .i64 (x : Int)) ∧ w'.cell? ⟨G, 1, none⟩ = some (.int .i64 y)) := fun w' hb => ⟨(hb.cell (p := ⟨_, 0, none⟩) HBG.out.lt).trans hs0.1, (hb.cell (p := ⟨_, 1, none⟩) HBG.out.lt).trans hs0.2⟩
    have hne : G ≠ w.heap.size := Nat.ne_of_gt HSZ.out
    clear hr
    have hs1 := (HS.out _ ((Below.refl _ w4).alloc (Nat.le_refl _) (Obj.cells #[.int .i64 y] 3))).1
    have hs2 := (HS.out _ ((Below.refl _ w4).alloc (Nat.le_refl _) (Obj.cells #[.int .i64 y] 3))).2
    have hs3 := hs0.1
    have hs4 := hs0.2
    go_region_law (first
        | ((refine step_append_lies _ (by rfl) _ _ _ (by rfl) (w.heap.size + 1) 3 i0 (.int .i64 0) 1 8 Tryz.underlying32 HI0.out HZ0.out HZ1.out HZ2.out rfl (by omega) vx N (ic (tgt X Y k (x : Int))) (by rfl) (HO.out.alloc _) ⟨w4.heap.size, 0, none⟩ 1 1 [.int .i64 y] (by rfl) (by rfl) (World.news_of_block (cs := #[.int .i64 y]) (t := 3) (fr := (0, 0)) (heap_alloc_new w4 _)) (by simp [Value.oneCell']) (by omega) (h63_n HN2.out) (hby_n HN2.out) (base_alloc1 (Nat.le_trans HSZ.out (Nat.le_of_lt HBG.out.lt)) _) (w4.heap.size + 1) (by simp) ?_
            intro gg capg wA hownA hgrowA hatA hltA
            have hgB : (w4.alloc (Obj.cells #[.int .i64 y] 3)).grownBy wA vx.ownBlock := ⟨hgrowA.os, hgrowA.tape, hgrowA.output, hgrowA.size, hgrowA.block⟩
            have HGR := Lib.hid hgB
            have HOW := Lib.hid hownA
            have HAT := Lib.hid hatA
            have q1 : Blk wA G 38 #[.int .i64 (x : Int), .int .i64 y] := (HBG.out.alloc _).grown hgB (fun e => own_blk_ne HO.out HBG.out (by decide) e.symm)
            have q2 := ((HR4.out.blk).alloc (Obj.cells #[.int .i64 y] 3)).grown hgB (fun e => own_blk_ne HO.out HR4.out.blk (by decide) e.symm)
            obtain ⟨y01, y02⟩ := two_cells q1
            obtain ⟨y11, y12⟩ := two_cells (q1.far (p := ⟨w.heap.size, x, none⟩) hne (.slice (some ⟨gg, 0, none⟩) (N + 1) capg))
            have yf := q2.frozen x
            have yc := q2.cell x
            rw [← HR4.out.blk.cell x, c4] at yc
            clear hownA hgrowA hatA hltA hgB q1 q2)))
    all_goals
        go_wp2_with fail
        go_roundw
        case rel =>
         have hal : Below w4.heap.size w4 (w4.alloc (Obj.cells #[.int .i64 y] 3)) := (Below.refl _ w4).alloc (Nat.le_refl _) _
         have h5 := HR4.out.call hal
         have hgr := HGR.out
         rw [← HVX.out] at hgr
         have h6 := h5.turn (H := (w4.alloc (Obj.cells #[.int .i64 y] 3)).heap.size) HXN.out (Nat.le_refl _) hgr (v' := .slice (some ⟨gg, 0, none⟩) (N + 1) capg) (k := N + 1) (L := tgt X Y k (x : Int) ++ [y]) (by rw [ic_append]; exact HOW.out) (by rw [List.length_append, HNN.out]; rfl) (by
          rw [HVX.out]
          rcases HAT.out with h | h
          · exact .inl (by rw [h]; rfl)
          · exact .inr (by rw [h]; simp [Value.ownBlock]))
         refine ⟨k', _, rfl, HK'.out.1, h6.congr fun i hi => ?_, ?_⟩
         · rw [HK'.out.2, tgt_succ, HXX.out.1, HXX.out.2]
           by_cases e : i = x
           · rw [if_pos e, if_pos (by rw [e]), e]
           · rw [if_neg e, if_neg (by omega), List.append_nil]
         · refine Below.setCell ?_ (p := ⟨w.heap.size, x, none⟩) (Nat.le_refl _) _
           exact below_grown (HW4.out.alloc (by have := HSZ.out; have := HBG.out.lt; omega) _) (by have := HSZ.out; have := HBG.out.lt; simp; omega) hgr (fun g e => by have := h5.low HXN.out e; show w.heap.size ≤ g; omega)
        case measure => exact HMS.out
  · have e : k = m := by have := Hk.out; omega
    have T0 : decide ((k : Int) < (m : Int)) = false := by simp <;> omega
    have T0' : decide (k < m) = false := decide_eq_false hlt
    subst e
    clear hlt HR0
    go_wp2_with fail
    obtain ⟨w0, hw0⟩ : ∃ w0 : World, w0 = wr := ⟨_, rfl⟩
    go_loopw [33] (fun x wr => ∃ (j : Nat) (V : Nat → Value), x = .int .i64 j ∧ Hid (j ≤ n) ∧ Hid (NRow (w.heap.size + 1) wr w.heap.size n V (fun i => if i < j then nx X Y k (i : Int) else tgt X Y k (i : Int))) ∧ Hid (Below w.heap.size w wr)) (fun x _ => n - (RowKit.intOf x).toNat)
    case atStart => exact ⟨0, V, rfl, Nat.zero_le _, HR.out.congr (fun i hi => by rw [if_neg (by omega)]), HW.out⟩
    case round =>
        clear hw0 HR HW
        obtain ⟨j, V, rfl, Hj, HR, HW⟩ := hrel
        by_cases hlt : j < n
        · have T0 : decide ((j : Int) < (n : Int)) = true := by simp <;> omega
          have T0' : decide (j < n) = true := decide_eq_true hlt
          obtain ⟨j', hj'⟩ : ∃ z, z = j + 1 := ⟨_, rfl⟩
          have x0 : IntKind.i64.wrap ((j : Int) + 1) = (j' : Int) := by have := HN.out; rw [IntKind.wrap_i64]; omega
          have HJ' : Hid (j' ≤ n ∧ j' = j + 1) := ⟨by omega, hj'⟩
          have HMS : Hid (n - (RowKit.intOf (Value.int .i64 (j' : Int))).toNat < n - (RowKit.intOf (Value.int .i64 (j : Int))).toNat) := by show _ < _; simp [RowKit.intOf]; omega
          have k0 : (0 : Int) ≤ (j : Int) := by omega
          have k1 : (j : Int) < (n : Int) := by omega
          have c0 := HR.out.cell hlt
          have HLT := Lib.hid hlt
          obtain ⟨vx, hvx⟩ : ∃ v, V j = v := ⟨_, rfl⟩
          rw [hvx] at c0
          have HVX := Lib.hid hvx
          have hr := HR.out.row j hlt
          simp only [Nat.lt_irrefl, if_false] at hr
          rw [hvx] at hr
          have HO := Lib.hid hr
          have HL : Hid ((tgt X Y k (j : Int)).length ≤ 1000) := Nat.le_trans (tgt_len X Y k _) HM.out
          have S1 := Lib.hid (gsort (w.heap.size + 1) wr vx _ (tgt X Y k (j : Int)) rfl hr HL.out)
          clear hj' hvx hr hlt
          go_wp2_with (first
           | (go_at_call 135
              with_reducible refine S1.out.mono ?_
              rintro e w5 ⟨rfl, ho5, hg5⟩
              have hg5' := hg5
              rw [← HVX.out] at hg5' ho5
              have h5 := HR.out.inplace HLT.out hg5' ho5 (by simp)
              have HR5 := Lib.hid h5
              have HW5 := Lib.hid (below_grown HW.out HW.out.size hg5' (fun g e => by have := HR.out.low HLT.out e; omega))
              have c5 := h5.cell HLT.out
              have r5 := h5.row j HLT.out
              simp only [if_true] at r5
              rw [HVX.out] at c5 r5
              have S2 := Lib.hid (gcompact (w.heap.size + 1) w5 vx _ _ rfl r5 (by simpa using HL.out))
              clear ho5 hg5 hg5' h5 r5 c0)
           | (go_at_call 136
              with_reducible refine S2.out.mono ?_
              rintro e w6 ⟨u6, rfl, ho6, hg6, ha6⟩
              obtain ⟨A6, p6, rfl⟩ := nr_form ho6
              have HO6 := Lib.hid ho6
              have HG6 := Lib.hid hg6
              have HA6 := Lib.hid ha6
              have q2 := HR5.out.blk.grown hg6 (fun e => by
               have e2 := (HVX.out ▸ e.symm : (V j).ownBlock = some w.heap.size)
               have := HR5.out.low HLT.out e2
               omega)
              have c6 := q2.cell j
              have f6 := q2.frozen j
              rw [← HR5.out.blk.cell j] at c6
              rw [c5] at c6
              clear ho6 hg6 ha6 q2))
          go_roundw
          case rel =>
           have hg6 := HG6.out
           rw [← HVX.out] at hg6
           have h6 := HR5.out.turn (H := w5.heap.size) HLT.out (Nat.le_refl _) hg6 HO6.out rfl (.inl (by rw [HVX.out]; exact HA6.out))
           refine ⟨j', _, rfl, HJ'.out.1, h6.congr fun i hi => ?_, ?_⟩
           · rw [HJ'.out.2]
             by_cases e : i = j
             · rw [if_pos e, if_pos (by omega), e]; rfl
             · rw [if_neg e, if_neg e]
               by_cases e2 : i < j
               · rw [if_pos e2, if_pos (by omega)]
               · rw [if_neg e2, if_neg (by omega)]
           · refine Below.setCell ?_ (p := ⟨w.heap.size, j, none⟩) (Nat.le_refl _) _
             exact below_grown HW5.out HW5.out.size hg6 (fun g e => by have := HR5.out.low HLT.out e; show w.heap.size ≤ g; omega)
          case measure => exact HMS.out
        · have e : j = n := by have := Hj.out; omega
          have T0 : decide ((j : Int) < (n : Int)) = false := by simp <;> omega
          have T0' : decide (j < n) = false := decide_eq_false hlt
          have HJE := Lib.hid e
          clear hlt e
          go_wp2_with fail
          go_ret
          refine ⟨w.heap.size, rfl, Nat.le_refl _, ?_, HW.out⟩
          exact (HR.out.congr fun i hi => by rw [HJE.out, if_pos hi]).reads
end Go.Proofs.YtghefgifhebniaaGreatDoor

/- The package's Check. -/
import Derived.Test.YtigocjhmgmhocaaGreatDoorChk
namespace Go.Proofs.YtigocjhmgmhocaaGreatDoor
open Go.RowKit Go.Maps
set_option linter.unusedVariables false
set_option linter.unusedSimpArgs false

def apart (u v : Value) : Prop := ∀ g, u.ownBlock = some g → v.ownBlock ≠ some g
theorem apart.symm {u v : Value} (h : apart u v) : apart v u := fun g hv hu => h g hu hv
theorem apart_app {wa : World} {u v v' : Value} (h : apart u v) (hlt : ∀ g, u.ownBlock = some g → g < wa.heap.size) (hat : v'.ownBlock = v.ownBlock ∨ v'.ownBlock = some wa.heap.size) : apart u v' := by
  intro g hu hv
  rcases hat with e | e
  · exact h g hu (by rw [← e]; exact hv)
  · rw [hv] at e
    injection e with e
    have := hlt g hu
    omega
/-- What the second loop keeps: two rows. -/
def PMem (w wr : World) (u : Value) (M : Nat) (L : List (Int × Int)) (v : Value) (M' : Nat) (L' : List (Int × Int)) : Prop := RMem w wr u M L ∧ RMem w wr v M' L' ∧ apart u v
theorem PMem.call {w wr w' : World} {u v : Value} {M M' : Nat} {L L' : List (Int × Int)} (h : PMem w wr u M L v M' L') (hb : Below wr.heap.size wr w') : PMem w w' u M L v M' L' := ⟨h.1.call hb, h.2.1.call hb, h.2.2⟩
theorem PMem.app1 {w wr w' : World} {u v u' : Value} {M M' : Nat} {L L' : List (Int × Int)} {x y : Int} (h : PMem w wr u M L v M' L') {cs : Array Value} {t : TypeId} (hown : w'.ownsRow w.heap.size 48 2 u' (M + 1) (fc L ++ [.int .i64 x, .string (fnm y)])) (hg : (wr.alloc (.cells cs t)).grownBy w' u.ownBlock)
    (hat : u'.ownBlock = u.ownBlock ∨ u'.ownBlock = some (wr.alloc (.cells cs t)).heap.size) : PMem w w' u' (M + 1) (L ++ [(x, y)]) v M' L' := by
  have h2 := h.1.app hown hg
  have hv : RMem w (wr.alloc (.cells cs t)) v M' L' := h.2.1.call (by have := Below.refl wr.heap.size wr; (repeat' (first | assumption | exact Below.refl _ _ | exact Below.size (by assumption) | (refine Below.setCell ?_ ?_ _) | (refine Below.alloc ?_ ?_ _) | (refine Below.drew ?_) | (refine below_drewN ?_ _) | (refine Below.trans ?_ (Below.mono ‹Below _ _ _› ?_)) | omega | (simp; done) | (simp; omega) | (simp at *; omega))))
  refine ⟨h2, hv.kept hg ?_ h2.2.2, ?_⟩
  · cases hvb : v.ownBlock with
    | none => exact .inl rfl
    | some g => exact .inr fun e => h.2.2 g e.symm hvb
  · exact (apart_app h.2.2.symm (fun g hg => (hv.1.lt g hg).2) hat).symm
theorem PMem.app2 {w wr w' : World} {u v v' : Value} {M M' : Nat} {L L' : List (Int × Int)} {x y : Int} (h : PMem w wr u M L v M' L') {cs : Array Value} {t : TypeId} (hown : w'.ownsRow w.heap.size 48 2 v' (M' + 1) (fc L' ++ [.int .i64 x, .string (fnm y)])) (hg : (wr.alloc (.cells cs t)).grownBy w' v.ownBlock)
    (hat : v'.ownBlock = v.ownBlock ∨ v'.ownBlock = some (wr.alloc (.cells cs t)).heap.size) : PMem w w' u M L v' (M' + 1) (L' ++ [(x, y)]) := by
  have h2 := h.2.1.app hown hg
  have hv : RMem w (wr.alloc (.cells cs t)) u M L := h.1.call (by have := Below.refl wr.heap.size wr; (repeat' (first | assumption | exact Below.refl _ _ | exact Below.size (by assumption) | (refine Below.setCell ?_ ?_ _) | (refine Below.alloc ?_ ?_ _) | (refine Below.drew ?_) | (refine below_drewN ?_ _) | (refine Below.trans ?_ (Below.mono ‹Below _ _ _› ?_)) | omega | (simp; done) | (simp; omega) | (simp at *; omega))))
  refine ⟨hv.kept hg ?_ h2.2.2, h2, ?_⟩
  · cases hvb : u.ownBlock with
    | none => exact .inl rfl
    | some g => exact .inr fun e => h.2.2 g hvb e.symm
  · exact apart_app h.2.2 (fun g hg => (hv.1.lt g hg).2) hat
set_option maxRecDepth 100000 in
set_option maxHeartbeats 4000000 in
theorem tcheck_at (nm nd : ByteArray) (ev vol tot : Int) (hn1 : nm.size ≤ maxLen) (hn2 : nd.size ≤ maxLen) (A : Option Addr) (n c : Nat) (E : Evs) (from_ sec : Int) (h40 : n ≤ 40) (w : World) (hE9 : Env w) (hT : EvIn w A n E)
    (hE : yErr (validB nm nd ev vol tot = true) E n from_ sec = 0) :
    Calls Tryz.prog 17 #[.agg #[.string nm, .string nd, .int .i64 ev, .int .i64 vol, .int .i64 tot], .slice A n c, .int .i64 from_, .int .i64 sec] w fun e w' => ∃ (A' : Option Addr) (N cap : Nat), e = .returned (.tuple #[.slice A' N cap, .int .i64 0]) ∧ N = (finds (yrs E from_ sec) E.Tot n ev vol tot).length ∧ FndIn w' A' (finds (yrs E from_ sec) E.Tot n ev vol tot) ∧ Below w.heap.size w w' := by
  have HT := Lib.hid hT
  have H40 := Lib.hid h40
  have HEN := Lib.hid hE9
  have SY := Lib.hid fun w hT => tyears nm nd ev vol tot hn1 hn2 A n c E from_ sec h40 w hT
  have HP0 := Lib.hid (perm_blk w nm nd ev vol tot)
  have HW0 : Hid (Below w.heap.size w (w.alloc (Obj.cells #[.string nm, .string nd, .int .i64 ev, .int .i64 vol, .int .i64 tot] 26))) := by show Below _ _ _; (repeat' (first | assumption | exact Below.refl _ _ | exact Below.size (by assumption) | (refine Below.setCell ?_ ?_ _) | (refine Below.alloc ?_ ?_ _) | (refine Below.drew ?_) | (refine below_drewN ?_ _) | (refine Below.trans ?_ (Below.mono ‹Below _ _ _› ?_)) | omega | (simp; done) | (simp; omega) | (simp at *; omega)))
  have HTA : Hid (EvIn (w.alloc (Obj.cells #[.string nm, .string nd, .int .i64 ev, .int .i64 vol, .int .i64 tot] 26)) A n E) := HT.out.below (Nat.le_refl _) HW0.out
  obtain ⟨hok, hrp, hst, hyr⟩ := yErr_zero hE
  have HVL : Hid (limR ev vol tot) := (validB_true.1 hok).2.2
  have HASC := Lib.hid (yrs_asc hE)
  have HRP := Lib.hid hrp
  have HYR := Lib.hid hyr
  have HE := Lib.hid hE
  have hmm := @run_makeMap Tryz.prog
  obtain ⟨SI0, si0, sz0, sz1, sz2⟩ := info_parts1 infoF
  have SI1 := Lib.hid si0
  have SI2 := Lib.hid sz0
  have SI3 := Lib.hid sz1
  have SI4 := Lib.hid sz2
  clear hE hok hrp hst hyr hT h40 hn1 hn2 hE9 si0 sz0 sz1 sz2
  go_enter Tryz.func17, Tryz.ntmps17
  go_wp2_with (first
    | (go_at_call 34
       with_reducible refine (SY.out _ HTA.out).mono ?_
       rintro e w1 ⟨A1, N1, cap1, er, rfl, her, hI, hb1⟩
       obtain rfl : 0 = er := HE.out.symm.trans her.symm
       obtain ⟨hN, hJ⟩ := hI rfl
       clear hI
       obtain rfl := hN.symm
       have HI1 := Lib.hid hJ
       have HW1 := Lib.hid (below_step HW0.out hb1)
       have HP1 := Lib.hid (HP0.out.call hb1)
       clear hJ hb1 her hN))
  have HT1 := Lib.hid (HT.out.below (Nat.le_refl _) HW1.out)
  have HN1 := Lib.hid (HEN.out.below HW1.out)
  have HM0 : Hid (CMem w1 (w1.alloc (.map #[] 0)) w1.heap.size (yrs E from_ sec) E.Tot 0 (.slice none 0 0) 0 []) := ⟨⟨AMem.made _ _ _, Nat.le_refl _, by (repeat' (first | assumption | exact Below.refl _ _ | exact Below.size (by assumption) | (refine Below.setCell ?_ ?_ _) | (refine Below.alloc ?_ ?_ _) | (refine Below.drew ?_) | (refine below_drewN ?_ _) | (refine Below.trans ?_ (Below.mono ‹Below _ _ _› ?_)) | omega | (simp; done) | (simp; omega) | (simp at *; omega)))⟩, RMem.nil _ _ (by (repeat' (first | assumption | exact Below.refl _ _ | exact Below.size (by assumption) | (refine Below.setCell ?_ ?_ _) | (refine Below.alloc ?_ ?_ _) | (refine Below.drew ?_) | (refine below_drewN ?_ _) | (refine Below.trans ?_ (Below.mono ‹Below _ _ _› ?_)) | omega | (simp; done) | (simp; omega) | (simp at *; omega))))⟩
  go_loopw [14, 36] (fun u v wr => ∃ i M : Nat, Hid (i ≤ n) ∧ v = .int .i64 i ∧ Hid (CMem w1 wr w1.heap.size (yrs E from_ sec) E.Tot i u M (gFnd E.Tot vol i))) (fun _ v _ => n - (RowKit.intOf v).toNat)
  case atStart => exact ⟨0, 0, Nat.zero_le _, rfl, HM0⟩
  case round =>
    obtain ⟨i, M, Hi, rfl, HM⟩ := hrel
    obtain ⟨A8, cap8, h8, hkc⟩ := HM.out.2.form
    subst h8
    by_cases hlt : i < n
    · have T0 : decide ((i : Int) < (n : Int)) = true := by simp <;> omega
      obtain ⟨i', hi'⟩ : ∃ z, z = i + 1 := ⟨_, rfl⟩
      have x0 : IntKind.i64.wrap ((i : Int) + 1) = (i' : Int) := by have := H40.out; rw [IntKind.wrap_i64]; omega
      have HI' : Hid (i' ≤ n) := by show i' ≤ n; omega
      have HMS : Hid (n - (RowKit.intOf (Value.int .i64 (i' : Int))).toNat < n - (RowKit.intOf (Value.int .i64 (i : Int))).toNat) := by show _ < _; simp [RowKit.intOf]; omega
      have k0 : (0 : Int) ≤ (i : Int) := by omega
      have k1 : (i : Int) < (n : Int) := by omega
      have hi40 : i ≤ 40 := by have := H40.out; omega
      have HM300 : Hid (M ≤ 300) := by show M ≤ 300; have h1 := HM.out.2.2.1; have h2 := gFnd_len E.Tot vol i; omega
      obtain ⟨eb, eoff, rfl, heb, c0, c1, c2, c3⟩ := (HT1.out.below (Nat.le_refl _) HM.out.1.2.2).at hlt
      obtain ⟨yb, yoff, rfl, hyb, cy⟩ := (HI1.out.below (Nat.le_refl _) HM.out.1.2.2).at hlt
      have hbd := HRP.out.bounds hlt
      have hyb2 := (HYR.out i hlt).bound
      have hTn : ∀ j, j ≤ i → 0 ≤ E.Tot j := fun j hj => by have := HRP.out.bounds (show j < n by omega); omega
      have SW := Lib.hid fun f' t' pk w => twith (cnt (yrs E from_ sec) (yrs E from_ sec i) i : Int) (cutS (sm (yrs E from_ sec) E.Tot (yrs E from_ sec i) i)) f' t' (E.Tot i) pk (by omega) (by have := cnt_le (yrs E from_ sec) (yrs E from_ sec i) i; omega) (cut_nn (sm_nn i fun j hj => hTn j (by omega))) (cut_le _) (by omega) w
      have SI := Lib.hid fun w hE => titoa (i : Int) (by omega) (by omega) w hE
      have HPUT := Lib.hid fun wz (h : CMem w1 wz w1.heap.size (yrs E from_ sec) E.Tot i (.slice A8 M cap8) M (gFnd E.Tot vol i)) => h.put hi40 hyb2 hTn
      have HG1 : Hid (∀ wz : World, Below w1.heap.size w1 wz → wz.cell? ⟨yb, yoff + i, none⟩ = some (.int .i64 (yrs E from_ sec i))) := fun wz hb => ((HI1.out.below (Nat.le_refl _) hb).2.resolve_left (by omega)).elim fun b' h => by
        obtain ⟨off', hA, ht⟩ := h
        injection hA with hA
        injection hA with h1 h2
        subst h1 h2
        exact ht.2 i hlt
      have HLK := Lib.hid fun wz (h : FMem w1 wz w1.heap.size (yrs E from_ sec) E.Tot i) => h.1.look hyb2
      have HGN : Hid (wr.heap.size ≠ w1.heap.size) := by show _ ≠ _; have := HM.out.1.1.lt; omega
      have HEV : Hid (Blk (wr.alloc (Obj.cells #[.int .i64 (E.F i), .int .i64 (E.To i), .int .i64 (E.Tot i), .int .i64 (E.Pk i)] 44)) wr.heap.size 44 #[.int .i64 (E.F i), .int .i64 (E.To i), .int .i64 (E.Tot i), .int .i64 (E.Pk i)]) := Blk.new _ _ _
      have HA : Hid (CMem w1 (wr.alloc (Obj.cells #[.int .i64 (E.F i), .int .i64 (E.To i), .int .i64 (E.Tot i), .int .i64 (E.Pk i)] 44)) w1.heap.size (yrs E from_ sec) E.Tot i (.slice A8 M cap8) M (gFnd E.Tot vol i)) := HM.out.call (by have := Below.refl wr.heap.size wr; (repeat' (first | assumption | exact Below.refl _ _ | exact Below.size (by assumption) | (refine Below.setCell ?_ ?_ _) | (refine Below.alloc ?_ ?_ _) | (refine Below.drew ?_) | (refine below_drewN ?_ _) | (refine Below.trans ?_ (Below.mono ‹Below _ _ _› ?_)) | omega | (simp; done) | (simp; omega) | (simp at *; omega))))
      go_upto_region 9 with fail
      obtain ⟨G, hG⟩ : ∃ z, z = wr.heap.size := ⟨_, rfl⟩
      rw [← hG] at HEV HGN ⊢
      generalize (wr.alloc (Obj.cells #[.int .i64 (E.F i), .int .i64 (E.To i), .int .i64 (E.Tot i), .int .i64 (E.Pk i)] 44)) = wa at HEV HA ⊢
      obtain ⟨q0, q1, q2, q3⟩ := ev_cells HEV.out
      have qy := HG1.out wa HA.out.1.2.2
      have qk := HLK.out wa HA.out.1
      have qd := HLK.out wa.drew HA.out.1.drew
      have HI1' := Lib.hid hi'
      clear c0 c1 c2 c3 cy heb hyb hbd hyb2 hTn hi40 hlt hG hi'
      go_cut [] from 37 to 65 (fun wx => CMem w1 wx w1.heap.size (yrs E from_ sec) E.Tot (i + 1) (.slice A8 M cap8) M (gFnd E.Tot vol i) ∧ Blk wx G 44 #[.int .i64 (E.F i), .int .i64 (E.To i), .int .i64 (E.Tot i), .int .i64 (E.Pk i)])
      case first =>
        go_region_law (go_simp
                       go_at_call 35
                       with_reducible refine (SW.out _ _ _ _).mono ?_
                       rintro e w6 ⟨rfl, hb6⟩
                       have HM6 := Lib.hid (HA.out.drew.call hb6)
                       have HE6 := Lib.hid ((HEV.out.drewN 1).call hb6)
                       have z0 := HG1.out w6 HM6.out.1.2.2
                       obtain ⟨w7, hup, hm7, hb7⟩ := HPUT.out w6 HM6.out
                       have HM7 := Lib.hid hm7
                       have HE7 := Lib.hid (hb7 _ _ _ HGN.out HE6.out)
                       clear hb6 hm7 hb7)
        all_goals (go_wp2_with fail; go_meet)
        all_goals (exact ⟨HM7.out, HE7.out⟩)
      case rest =>
        obtain ⟨hf0, he0⟩ := hcut
        generalize wc = wz at hf0 he0 ⊢
        have HF0 := Lib.hid hf0
        have HE0 := Lib.hid he0
        clear hf0 he0 q0 q1 q2 q3 qy qk qd
        obtain ⟨q0, q1, q2, q3⟩ := ev_cells HE0.out
        obtain ⟨p0, p1, p2, p3, p4⟩ := perm_cells (HP1.out.call HF0.out.1.2.2)
        by_cases hgr : vol < E.Tot i
        · have t1 : decide (vol < E.Tot i) = true := decide_eq_true hgr
          have HG2 : Hid (gFnd E.Tot vol i' = gFnd E.Tot vol i ++ [(2, (i : Int))]) := by show _ = _; rw [HI1'.out]; exact gFnd_hit hgr
          clear hgr
          go_wp2_with (first
            | (go_at_call 22
               with_reducible refine (SI.out _ ?_).mono ?_
               focus (exact HN1.out.below HF0.out.1.2.2)
               rintro e w8 ⟨rfl, hb8⟩
               have HM8 := Lib.hid (HF0.out.call hb8)
               clear hb8)
            | (at_builtin; refine wpList_append_own_at _ ?paa (.tmp 59) (.tmp 63) 40 ?pab (w1.heap.size) 48 SI0 (.agg #[.int .i64 0, .string ByteArray.empty]) 2 24 Tryz.underlying40 SI1.out SI2.out SI3.out SI4.out ?pac ?pad (.slice A8 M cap8) (M) (fc (gFnd E.Tot vol i)) ?pae (HM8.out.2.1.alloc _) (⟨w8.heap.size, 0, none⟩) (1) (1) ([.int .i64 2, .string (fnm (i : Int))]) ?pag (rfl) (World.news_of_block (cs := #[.int .i64 2, .string (fnm (i : Int))]) (t := 48) (fr := (0, 0)) (heap_alloc_new _ _)) ((by simp [Value.oneCell'])) (h63_f HM300.out (by omega)) (hby_f HM300.out (by omega)) (Nat.le_trans HM8.out.2.2.2.size (by simp)) ?pah
               case paa => exact rfl
               case pab => exact rfl
               case pac => exact rfl
               case pad => decide
               case pae => exact rfl
               case pag => exact rfl
               intro v2 w9 hown2 hgrow2 hnil2 hat2
               have HM9 : Hid (CMem w1 w9 w1.heap.size (yrs E from_ sec) E.Tot i' v2 (M + 1) (gFnd E.Tot vol i')) := by
                 show CMem _ _ _ _ _ _ _ _ _
                 rw [HG2.out, HI1'.out]
                 exact HM8.out.app hown2 hgrow2
               clear hown2 hgrow2 hnil2 hat2))
          go_roundw
          case rel => exact ⟨i', M + 1, HI', rfl, HM9⟩
          case measure => exact HMS.out
        · have t1 : decide (vol < E.Tot i) = false := decide_eq_false hgr
          have HM9 : Hid (CMem w1 wz w1.heap.size (yrs E from_ sec) E.Tot i' (.slice A8 M cap8) M (gFnd E.Tot vol i')) := by
            show CMem _ _ _ _ _ _ _ _ _
            rw [HI1'.out, gFnd_miss hgr]
            exact HF0.out
          clear hgr
          go_wp2_with fail
          go_roundw
          case rel => exact ⟨i', M, HI', rfl, HM9⟩
          case measure => exact HMS.out
    · have hin : i = n := by have := Hi.out; omega
      have T0 : decide ((i : Int) < (n : Int)) = false := by simp <;> omega
      have T0' : decide (i < n) = false := decide_eq_false hlt
      rw [hin] at HM
      clear hlt
      have SK := Lib.hid (tsortedK HM.out.1.1 HASC.out H40.out)
      have SKK := Lib.hid fun mb w => tkeys mb w
      have HMB : Hid (M ≤ 40) := by show M ≤ 40; have h1 := HM.out.2.2.1; have h2 := gFnd_len E.Tot vol n; have := H40.out; omega
      clear hin
      go_wp2_with (first
        | (go_at_call 37
           with_reducible refine (SKK.out _ _).mono ?_
           rintro e w2 ⟨rfl, rfl⟩)
        | (go_at_call 36
           with_reducible refine SK.out.mono ?_
           rintro e w3 ⟨A3, N3, cap3, rfl, hN3, hN40, hI3, hb3⟩
           have HM3 := Lib.hid (HM.out.call hb3)
           have HN3 := Lib.hid hN3
           have HN40 := Lib.hid hN40
           have HI3 := Lib.hid hI3
           clear hN3 hN40 hI3 hb3))
      obtain ⟨K, hK⟩ : ∃ z, z = keysTo (yrs E from_ sec) n := ⟨_, rfl⟩
      rw [← hK] at HN3 HI3
      have HKK := Lib.hid hK
      have HYB : Hid (∀ j, j < N3 → 0 ≤ kX39 K j ∧ kX39 K j ≤ 9999) := by
        show ∀ j, j < N3 → _
        intro j hj
        have hm : kX39 K j ∈ K := by
          have hj' : j < K.length := by rw [← HN3.out]; exact hj
          have : kX39 K j = K[j] := by simp [kX39, List.getD, hj']
          rw [this]; exact List.getElem_mem _
        rw [hK] at hm
        obtain ⟨i2, hi2, e⟩ := mem_keys.1 hm
        rw [← hK] at e
        rw [← e]
        exact (HYR.out i2 hi2).bound
      clear hK
      have HN9 := Lib.hid (HN1.out.below HM3.out.1.2.2)
      have HP3 := Lib.hid (HP1.out.call HM3.out.1.2.2)
      have HQ0 : Hid (PMem w3 w3 (.slice none 0 0) 0 (kFnd 1 (fun y => decide (ev < (cnt (yrs E from_ sec) y n : Int))) K 0) (.slice none 0 0) 0 (kFnd 3 (fun y => decide (tot < cutS (sm (yrs E from_ sec) E.Tot y n))) K 0)) := ⟨RMem.nil _ _ (Below.refl _ _), RMem.nil _ _ (Below.refl _ _), fun g h => by cases h⟩
      go_loopw [13, 15, 70] (fun u x v wr => ∃ j M1 M2 : Nat, Hid (j ≤ N3) ∧ v = .int .i64 j ∧ Hid (PMem w3 wr u M1 (kFnd 1 (fun y => decide (ev < (cnt (yrs E from_ sec) y n : Int))) K j) x M2 (kFnd 3 (fun y => decide (tot < cutS (sm (yrs E from_ sec) E.Tot y n))) K j))) (fun _ _ v _ => N3 - (RowKit.intOf v).toNat)
      case atStart => exact ⟨0, 0, 0, Nat.zero_le _, rfl, HQ0⟩
      case round =>
        obtain ⟨j, M1, M2, Hj, rfl, HQ⟩ := hrel
        obtain ⟨A1', cp1, h8, hkc1⟩ := HQ.out.1.form
        subst h8
        obtain ⟨A2', cp2, h8, hkc2⟩ := HQ.out.2.1.form
        subst h8
        by_cases hlt : j < N3
        · have T0 : decide ((j : Int) < (N3 : Int)) = true := by simp <;> omega
          obtain ⟨j', hj'⟩ : ∃ z, z = j + 1 := ⟨_, rfl⟩
          have x0 : IntKind.i64.wrap ((j : Int) + 1) = (j' : Int) := by have := HN40.out; rw [IntKind.wrap_i64]; omega
          have HJ' : Hid (j' ≤ N3) := by show j' ≤ N3; omega
          have HMS : Hid (N3 - (RowKit.intOf (Value.int .i64 (j' : Int))).toNat < N3 - (RowKit.intOf (Value.int .i64 (j : Int))).toNat) := by show _ < _; simp [RowKit.intOf]; omega
          have k0 : (0 : Int) ≤ (j : Int) := by omega
          have k1 : (j : Int) < (N3 : Int) := by omega
          have HM1 : Hid (M1 ≤ 300) := by show M1 ≤ 300; have h1 := HQ.out.1.2.1; have h2 := kFnd_len 1 (fun y => decide (ev < (cnt (yrs E from_ sec) y n : Int))) K j; have := HN40.out; omega
          have HM2 : Hid (M2 ≤ 300) := by show M2 ≤ 300; have h1 := HQ.out.2.1.2.1; have h2 := kFnd_len 3 (fun y => decide (tot < cutS (sm (yrs E from_ sec) E.Tot y n))) K j; have := HN40.out; omega
          obtain ⟨kb, koff, rfl, hkb, ck⟩ := (HI3.out.below (Nat.le_refl _) HQ.out.1.2.2).at hlt
          have hyb := HYB.out j hlt
          obtain ⟨p0, p1, p2, p3, p4⟩ := perm_cells (HP3.out.call HQ.out.1.2.2)
          have qk := (HM3.out.1.1.call HQ.out.1.2.2).look hyb
          have SI := Lib.hid fun w hE => titoa (kX39 K j) (by omega) (by omega) w hE
          have HF1 : Hid (kFnd 1 (fun y => decide (ev < (cnt (yrs E from_ sec) y n : Int))) K j' = if decide (ev < (cnt (yrs E from_ sec) (kX39 K j) n : Int)) = true then kFnd 1 (fun y => decide (ev < (cnt (yrs E from_ sec) y n : Int))) K j ++ [(1, kX39 K j)] else kFnd 1 (fun y => decide (ev < (cnt (yrs E from_ sec) y n : Int))) K j) := by show _ = _; rw [hj']; rfl
          have HF3 : Hid (kFnd 3 (fun y => decide (tot < cutS (sm (yrs E from_ sec) E.Tot y n))) K j' = if decide (tot < cutS (sm (yrs E from_ sec) E.Tot (kX39 K j) n)) = true then kFnd 3 (fun y => decide (tot < cutS (sm (yrs E from_ sec) E.Tot y n))) K j ++ [(3, kX39 K j)] else kFnd 3 (fun y => decide (tot < cutS (sm (yrs E from_ sec) E.Tot y n))) K j) := by show _ = _; rw [hj']; rfl
          have SK2 := Lib.hid fun w => tbroken nm nd ev vol tot (cnt (yrs E from_ sec) (kX39 K j) n : Int) (cutS (sm (yrs E from_ sec) E.Tot (kX39 K j) n)) w
          generalize hL1 : kFnd 1 (fun y => decide (ev < (cnt (yrs E from_ sec) y n : Int))) K j = L1 at HF1 HQ
          generalize hL3 : kFnd 3 (fun y => decide (tot < cutS (sm (yrs E from_ sec) E.Tot y n))) K j = L3 at HF3 HQ
          generalize (cnt (yrs E from_ sec) (kX39 K j) n : Int) = ca at qk SK2 HF1
          generalize cutS (sm (yrs E from_ sec) E.Tot (kX39 K j) n) = cb at qk SK2 HF3
          generalize kX39 K j = y at ck qk SI HF1 HF3
          by_cases b1 : ev < ca
          · have t1 : decide (ev < ca) = true := decide_eq_true b1
            rw [if_pos (by simp [b1])] at HF1
            by_cases b2 : tot < cb
            · have t2 : decide (tot < cb) = true := decide_eq_true b2
              rw [if_pos (by simp [b2])] at HF3
              clear hlt hj' hyb b1 b2 hL1 hL3
              go_wp2_with (first
                | (go_at_call 38
                   with_reducible refine (SK2.out _).mono ?_
                   rintro e w5 ⟨rfl, hb5⟩
                   have HM5 := Lib.hid (HQ.out.call hb5)
                   clear hb5)
                | (go_at_call 22
                   with_reducible refine (SI.out _ ?_).mono ?_
                   focus (exact HN9.out.below HM7.out.1.2.2)
                   rintro e w8 ⟨rfl, hbI⟩
                   have HM8 := Lib.hid (HM7.out.call hbI)
                   clear hbI)
                | (at_builtin; refine wpList_append_own_at _ ?ptt2a (.tmp 90) (.tmp 94) 40 ?ptt2b (w3.heap.size) 48 SI0 (.agg #[.int .i64 0, .string ByteArray.empty]) 2 24 Tryz.underlying40 SI1.out SI2.out SI3.out SI4.out ?ptt2c ?ptt2d (.slice A2' M2 cp2) (M2) (fc L3) ?ptt2e (HM8.out.2.1.1.alloc _) (⟨w8.heap.size, 0, none⟩) (1) (1) ([.int .i64 3, .string (fnm y)]) ?ptt2g (rfl) (World.news_of_block (cs := #[.int .i64 3, .string (fnm y)]) (t := 48) (fr := (0, 0)) (heap_alloc_new _ _)) ((by simp [Value.oneCell'])) (h63_f HM2.out (by omega)) (hby_f HM2.out (by omega)) (Nat.le_trans HM8.out.1.2.2.size (by simp)) ?ptt2h
                   case ptt2a => exact rfl
                   case ptt2b => exact rfl
                   case ptt2c => exact rfl
                   case ptt2d => decide
                   case ptt2e => exact rfl
                   case ptt2g => exact rfl
                   intro v9 w9 hown2 hgrow2 hnil2 hat2
                   have HM9 := Lib.hid (HM8.out.app2 hown2 hgrow2 hat2)
                   clear hown2 hgrow2 hnil2 hat2)
                | (go_at_call 22
                   with_reducible refine (SI.out _ ?_).mono ?_
                   focus (exact HN9.out.below HM5.out.1.2.2)
                   rintro e w6 ⟨rfl, hbI⟩
                   have HM6 := Lib.hid (HM5.out.call hbI)
                   clear hbI)
                | (at_builtin; refine wpList_append_own_at _ ?ptt1a (.tmp 83) (.tmp 87) 40 ?ptt1b (w3.heap.size) 48 SI0 (.agg #[.int .i64 0, .string ByteArray.empty]) 2 24 Tryz.underlying40 SI1.out SI2.out SI3.out SI4.out ?ptt1c ?ptt1d (.slice A1' M1 cp1) (M1) (fc L1) ?ptt1e (HM6.out.1.1.alloc _) (⟨w6.heap.size, 0, none⟩) (1) (1) ([.int .i64 1, .string (fnm y)]) ?ptt1g (rfl) (World.news_of_block (cs := #[.int .i64 1, .string (fnm y)]) (t := 48) (fr := (0, 0)) (heap_alloc_new _ _)) ((by simp [Value.oneCell'])) (h63_f HM1.out (by omega)) (hby_f HM1.out (by omega)) (Nat.le_trans HM6.out.1.2.2.size (by simp)) ?ptt1h
                   case ptt1a => exact rfl
                   case ptt1b => exact rfl
                   case ptt1c => exact rfl
                   case ptt1d => decide
                   case ptt1e => exact rfl
                   case ptt1g => exact rfl
                   intro v7 w7 hown2 hgrow2 hnil2 hat2
                   have HM7 := Lib.hid (HM6.out.app1 hown2 hgrow2 hat2)
                   clear hown2 hgrow2 hnil2 hat2))
              have HR : Hid (PMem w3 w9 v7 (M1 + 1) (kFnd 1 (fun y => decide (ev < (cnt (yrs E from_ sec) y n : Int))) K j') v9 (M2 + 1) (kFnd 3 (fun y => decide (tot < cutS (sm (yrs E from_ sec) E.Tot y n))) K j')) := by
                show PMem _ _ _ _ _ _ _ _
                rw [HF1.out, HF3.out]
                exact HM9.out
              go_roundw
              case rel => exact ⟨j', _, _, HJ', rfl, HR⟩
              case measure => exact HMS.out
            · have t2 : decide (tot < cb) = false := decide_eq_false b2
              rw [if_neg (by simp [b2])] at HF3
              clear hlt hj' hyb b1 b2 hL1 hL3
              go_wp2_with (first
                | (go_at_call 38
                   with_reducible refine (SK2.out _).mono ?_
                   rintro e w5 ⟨rfl, hb5⟩
                   have HM5 := Lib.hid (HQ.out.call hb5)
                   clear hb5)
                | (go_at_call 22
                   with_reducible refine (SI.out _ ?_).mono ?_
                   focus (exact HN9.out.below HM5.out.1.2.2)
                   rintro e w6 ⟨rfl, hbI⟩
                   have HM6 := Lib.hid (HM5.out.call hbI)
                   clear hbI)
                | (at_builtin; refine wpList_append_own_at _ ?ptf1a (.tmp 83) (.tmp 87) 40 ?ptf1b (w3.heap.size) 48 SI0 (.agg #[.int .i64 0, .string ByteArray.empty]) 2 24 Tryz.underlying40 SI1.out SI2.out SI3.out SI4.out ?ptf1c ?ptf1d (.slice A1' M1 cp1) (M1) (fc L1) ?ptf1e (HM6.out.1.1.alloc _) (⟨w6.heap.size, 0, none⟩) (1) (1) ([.int .i64 1, .string (fnm y)]) ?ptf1g (rfl) (World.news_of_block (cs := #[.int .i64 1, .string (fnm y)]) (t := 48) (fr := (0, 0)) (heap_alloc_new _ _)) ((by simp [Value.oneCell'])) (h63_f HM1.out (by omega)) (hby_f HM1.out (by omega)) (Nat.le_trans HM6.out.1.2.2.size (by simp)) ?ptf1h
                   case ptf1a => exact rfl
                   case ptf1b => exact rfl
                   case ptf1c => exact rfl
                   case ptf1d => decide
                   case ptf1e => exact rfl
                   case ptf1g => exact rfl
                   intro v7 w7 hown2 hgrow2 hnil2 hat2
                   have HM7 := Lib.hid (HM6.out.app1 hown2 hgrow2 hat2)
                   clear hown2 hgrow2 hnil2 hat2))
              have HR : Hid (PMem w3 w7 v7 (M1 + 1) (kFnd 1 (fun y => decide (ev < (cnt (yrs E from_ sec) y n : Int))) K j') (.slice A2' M2 cp2) M2 (kFnd 3 (fun y => decide (tot < cutS (sm (yrs E from_ sec) E.Tot y n))) K j')) := by
                show PMem _ _ _ _ _ _ _ _
                rw [HF1.out, HF3.out]
                exact HM7.out
              go_roundw
              case rel => exact ⟨j', _, _, HJ', rfl, HR⟩
              case measure => exact HMS.out
          · have t1 : decide (ev < ca) = false := decide_eq_false b1
            rw [if_neg (by simp [b1])] at HF1
            by_cases b2 : tot < cb
            · have t2 : decide (tot < cb) = true := decide_eq_true b2
              rw [if_pos (by simp [b2])] at HF3
              clear hlt hj' hyb b1 b2 hL1 hL3
              go_wp2_with (first
                | (go_at_call 38
                   with_reducible refine (SK2.out _).mono ?_
                   rintro e w5 ⟨rfl, hb5⟩
                   have HM5 := Lib.hid (HQ.out.call hb5)
                   clear hb5)
                | (go_at_call 22
                   with_reducible refine (SI.out _ ?_).mono ?_
                   focus (exact HN9.out.below HM5.out.1.2.2)
                   rintro e w8 ⟨rfl, hbI⟩
                   have HM8 := Lib.hid (HM5.out.call hbI)
                   clear hbI)
                | (at_builtin; refine wpList_append_own_at _ ?pft2a (.tmp 90) (.tmp 94) 40 ?pft2b (w3.heap.size) 48 SI0 (.agg #[.int .i64 0, .string ByteArray.empty]) 2 24 Tryz.underlying40 SI1.out SI2.out SI3.out SI4.out ?pft2c ?pft2d (.slice A2' M2 cp2) (M2) (fc L3) ?pft2e (HM8.out.2.1.1.alloc _) (⟨w8.heap.size, 0, none⟩) (1) (1) ([.int .i64 3, .string (fnm y)]) ?pft2g (rfl) (World.news_of_block (cs := #[.int .i64 3, .string (fnm y)]) (t := 48) (fr := (0, 0)) (heap_alloc_new _ _)) ((by simp [Value.oneCell'])) (h63_f HM2.out (by omega)) (hby_f HM2.out (by omega)) (Nat.le_trans HM8.out.1.2.2.size (by simp)) ?pft2h
                   case pft2a => exact rfl
                   case pft2b => exact rfl
                   case pft2c => exact rfl
                   case pft2d => decide
                   case pft2e => exact rfl
                   case pft2g => exact rfl
                   intro v9 w9 hown2 hgrow2 hnil2 hat2
                   have HM9 := Lib.hid (HM8.out.app2 hown2 hgrow2 hat2)
                   clear hown2 hgrow2 hnil2 hat2))
              have HR : Hid (PMem w3 w9 (.slice A1' M1 cp1) M1 (kFnd 1 (fun y => decide (ev < (cnt (yrs E from_ sec) y n : Int))) K j') v9 (M2 + 1) (kFnd 3 (fun y => decide (tot < cutS (sm (yrs E from_ sec) E.Tot y n))) K j')) := by
                show PMem _ _ _ _ _ _ _ _
                rw [HF1.out, HF3.out]
                exact HM9.out
              go_roundw
              case rel => exact ⟨j', _, _, HJ', rfl, HR⟩
              case measure => exact HMS.out
            · have t2 : decide (tot < cb) = false := decide_eq_false b2
              rw [if_neg (by simp [b2])] at HF3
              clear hlt hj' hyb b1 b2 hL1 hL3
              go_wp2_with (first
                | (go_at_call 38
                   with_reducible refine (SK2.out _).mono ?_
                   rintro e w5 ⟨rfl, hb5⟩
                   have HM5 := Lib.hid (HQ.out.call hb5)
                   clear hb5))
              have HR : Hid (PMem w3 w5 (.slice A1' M1 cp1) M1 (kFnd 1 (fun y => decide (ev < (cnt (yrs E from_ sec) y n : Int))) K j') (.slice A2' M2 cp2) M2 (kFnd 3 (fun y => decide (tot < cutS (sm (yrs E from_ sec) E.Tot y n))) K j')) := by
                show PMem _ _ _ _ _ _ _ _
                rw [HF1.out, HF3.out]
                exact HM5.out
              go_roundw
              case rel => exact ⟨j', _, _, HJ', rfl, HR⟩
              case measure => exact HMS.out
        · have hin : j = N3 := by have := Hj.out; omega
          have T0 : decide ((j : Int) < (N3 : Int)) = false := by simp <;> omega
          have T0' : decide (j < N3) = false := decide_eq_false hlt
          have HQE : Hid (PMem w3 wr (.slice A1' M1 cp1) M1 ((K.filter fun y => decide (ev < (cnt (yrs E from_ sec) y n : Int))).map fun y => (1, y)) (.slice A2' M2 cp2) M2 ((K.filter fun y => decide (tot < cutS (sm (yrs E from_ sec) E.Tot y n))).map fun y => (3, y))) := by
            show PMem _ _ _ _ _ _ _ _
            rw [← kFnd_all, ← kFnd_all, ← HN3.out, ← hin]
            exact HQ.out
          have HM1 : Hid (M1 ≤ 40) := by show M1 ≤ 40; have h1 := HQ.out.1.2.1; have h2 := kFnd_len 1 (fun y => decide (ev < (cnt (yrs E from_ sec) y n : Int))) K j; have := HN40.out; omega
          have HM2 : Hid (M2 ≤ 40) := by show M2 ≤ 40; have h1 := HQ.out.2.1.2.1; have h2 := kFnd_len 3 (fun y => decide (tot < cutS (sm (yrs E from_ sec) E.Tot y n))) K j; have := HN40.out; omega
          generalize hL1 : ((K.filter fun y => decide (ev < (cnt (yrs E from_ sec) y n : Int))).map fun y => ((1 : Int), y)) = L1 at HQE
          generalize hL3 : ((K.filter fun y => decide (tot < cutS (sm (yrs E from_ sec) E.Tot y n))).map fun y => ((3 : Int), y)) = L3 at HQE
          have HFF : Hid (finds (yrs E from_ sec) E.Tot n ev vol tot = L1 ++ gFnd E.Tot vol n ++ L3) := by
            show _ = _
            rw [← hL1, ← hL3, HKK.out]
            unfold finds manyL muchL gFnd
            have hlim := HVL.out
            unfold limR at hlim
            have hpq : ∀ y, decide (tot < cutS (sm (yrs E from_ sec) E.Tot y n)) = decide (tot < sm (yrs E from_ sec) E.Tot y n) := fun y => by rw [decide_eq_decide]; exact cut_gt (by omega)
            simp only [hpq]
          have F1 := HQE.out.1.fnd (by have := HM1.out; omega)
          have F2 := (HM3.out.2.fnd (by have := HMB.out; omega)).below (Nat.le_refl _) HQE.out.1.2.2
          have F3 := HQE.out.2.1.fnd (by have := HM2.out; omega)
          have HB9 := Lib.hid (below_step HW1.out (below_step HM3.out.1.2.2 HQE.out.1.2.2))
          have l1 := HQE.out.1.2.1
          have l2 := HM3.out.2.2.1
          have l3 := HQE.out.2.1.2.1
          have hwa : Below wr.heap.size wr (wr.alloc (Obj.cells #[.slice A1' M1 cp1, .slice A8 M cap8, .slice A2' M2 cp2] 40)) := by have := Below.refl wr.heap.size wr; (repeat' (first | assumption | exact Below.refl _ _ | exact Below.size (by assumption) | (refine Below.setCell ?_ ?_ _) | (refine Below.alloc ?_ ?_ _) | (refine Below.drew ?_) | (refine below_drewN ?_ _) | (refine Below.trans ?_ (Below.mono ‹Below _ _ _› ?_)) | omega | (simp; done) | (simp; omega) | (simp at *; omega)))
          have HC := Lib.hid (fconcat wr.heap.size (fun i => if i = 0 then A1' else if i = 1 then A8 else A2') (fun i => if i = 0 then cp1 else if i = 1 then cap8 else cp2) (fun i => if i = 0 then L1 else if i = 1 then gFnd E.Tot vol n else L3) (wr.alloc (Obj.cells #[.slice A1' M1 cp1, .slice A8 M cap8, .slice A2' M2 cp2] 40))
            (fun i hi => by
              have h3 : i = 0 ∨ i = 1 ∨ i = 2 := by omega
              rcases h3 with rfl | rfl | rfl
              · exact F1.below (Nat.le_refl _) hwa
              · exact F2.below (Nat.le_refl _) hwa
              · exact F3.below (Nat.le_refl _) hwa)
            (by
              have := HM1.out
              have := HM2.out
              have := HMB.out
              simp [preL]; omega)
            (by simp)
            (fun i hi => by
              have h3 : i = 0 ∨ i = 1 ∨ i = 2 := by omega
              rcases h3 with rfl | rfl | rfl <;> simp [← l1, ← l2, ← l3]))
          clear hlt hin hL1 hL3 F1 F2 F3 l1 l2 l3 hwa
          go_wp2_with (first
            | (go_at_call 39
               with_reducible refine HC.out.mono ?_
               rintro e wc9 ⟨A9, N9, cp9, rfl, hN9, hF9, hb9⟩
               have HN9' := Lib.hid hN9
               have HF9 := Lib.hid hF9
               have HB10 := Lib.hid (below_step HB9.out (w' := wc9) (by have := Below.refl wr.heap.size wr; (repeat' (first | assumption | exact Below.refl _ _ | exact Below.size (by assumption) | (refine Below.setCell ?_ ?_ _) | (refine Below.alloc ?_ ?_ _) | (refine Below.drew ?_) | (refine below_drewN ?_ _) | (refine Below.trans ?_ (Below.mono ‹Below _ _ _› ?_)) | omega | (simp; done) | (simp; omega) | (simp at *; omega)))))
               clear hN9 hF9 hb9))
          go_ret2
          have e9 : preL (fun i => if i = 0 then L1 else if i = 1 then gFnd E.Tot vol n else L3) 3 = finds (yrs E from_ sec) E.Tot n ev vol tot := by rw [HFF.out]; simp [preL]
          have hN10 := HN9'.out
          have hF10 := HF9.out
          rw [e9] at hN10 hF10
          exact ⟨A9, N9, cp9, rfl, hN10, hF10, HB10.out⟩
end Go.Proofs.YtigocjhmgmhocaaGreatDoor

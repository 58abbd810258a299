/- The package's First. -/
import Derived.Test.YtgbnbafigjijmaaDoorAcm
import Derived.Test.YtgbnbafigjijmaaDoorLft
import Derived.Deep.RegionLaw
namespace Go.Proofs.YtgbnbafigjijmaaDoor
open Go.RowKit Go.Maps
set_option linter.unusedVariables false
set_option linter.unusedSimpArgs false

/-- What the loops over events keep: the accounts, and the frame. -/
def FMem (w wr : World) (b : Nat) (Y T : Nat → Int) (i : Nat) : Prop := AMem wr b Y T i ∧ w.heap.size ≤ b ∧ Below w.heap.size w wr
theorem FMem.call {w wr w' : World} {b : Nat} {Y T : Nat → Int} {i : Nat} (h : FMem w wr b Y T i) (hb : Below wr.heap.size wr w') : FMem w w' b Y T i := ⟨h.1.call hb, h.2.1, below_step h.2.2 hb⟩
theorem FMem.drew {w wr : World} {b : Nat} {Y T : Nat → Int} {i : Nat} (h : FMem w wr b Y T i) : FMem w wr.drew b Y T i := h.call (by (repeat' (first | assumption | exact Below.refl _ _ | exact Below.size (by assumption) | (refine Below.setCell ?_ ?_ _) | (refine Below.alloc ?_ ?_ _) | (refine Below.drew ?_) | (refine below_drewN ?_ _) | (refine Below.trans ?_ (Below.mono ‹Below _ _ _› ?_)) | omega | (simp; done) | (simp; omega) | (simp at *; omega))))
/-- One more event. -/
theorem FMem.put {w wr : World} {b : Nat} {Y T : Nat → Int} {i : Nat} (h : FMem w wr b Y T i) (hi : i ≤ 40) (hy : 0 ≤ Y i ∧ Y i ≤ 9999) (hT : ∀ j, j ≤ i → 0 ≤ T j) :
    ∃ w', (Instr.mapUpdate 68 (.map (some b)) (.int .i64 (Y i)) (.agg #[.int .i64 ((cnt Y (Y i) i : Int) + 1), .int .i64 (cutS (cutS (sm Y T (Y i) i) + cutS (T i)))])).run Tryd.prog wr = .ok () w' ∧ FMem w w' b Y T (i + 1) ∧ ∀ (g : Nat) (t : TypeId) (cs : Array Value), g ≠ b → Blk wr g t cs → Blk w' g t cs := by
  obtain ⟨w', hr, hA, hg⟩ := h.1.put hi hy hT
  refine ⟨w', hr, ⟨hA, h.2.1, ?_⟩, fun g t cs hne hb => hb.grown hg (by simpa using hne)⟩
  exact h.2.2.grown hg (by have := h.2.2.size; omega) (fun k hk => by injection hk with hk; have := h.2.1; omega)
/-- A permit is broken behind an event. -/
noncomputable def brk (Y T : Nat → Int) (ev vol tot : Int) (i : Nat) : Bool := decide (ev < (cnt Y (Y i) (i + 1) : Int)) || (decide (tot < cutS (sm Y T (Y i) (i + 1))) || decide (vol < T i))
set_option maxRecDepth 100000 in
set_option maxHeartbeats 4000000 in
theorem tfirst_at (nm nd : ByteArray) (ev vol tot : Int) (hn1 : nm.size ≤ maxLen) (hn2 : nd.size ≤ maxLen) (A : Option Addr) (n c : Nat) (E : Evs) (from_ sec : Int) (h40 : n ≤ 40) (w : World) (hT : EvIn w A n E)
    (hE : yErr (validB nm nd ev vol tot = true) E n from_ sec = 0) (k er2 : Int) (hk : (∃ K : Nat, K < n ∧ brk (yrs E from_ sec) E.Tot ev vol tot K = true ∧ (∀ j, j < K → brk (yrs E from_ sec) E.Tot ev vol tot j = false) ∧ k = K ∧ er2 = 0) ∨ ((∀ j, j < n → brk (yrs E from_ sec) E.Tot ev vol tot j = false) ∧ k = 0 ∧ er2 = 12)) :
    Calls Tryd.prog 15 #[.agg #[.string nm, .string nd, .int .i64 ev, .int .i64 vol, .int .i64 tot], .slice A n c, .int .i64 from_, .int .i64 sec] w fun e w' => e = .returned (.tuple #[.int .i64 k, .int .i64 er2]) ∧ Below w.heap.size w w' := by
  have HT := Lib.hid hT
  have H40 := Lib.hid h40
  have SY := Lib.hid fun w hT => tyears nm nd ev vol tot hn1 hn2 A n c E from_ sec h40 w hT
  have HP0 := Lib.hid (perm_blk w nm nd ev vol tot)
  have HW0 : Hid (Below w.heap.size w (w.alloc (Obj.cells #[.string nm, .string nd, .int .i64 ev, .int .i64 vol, .int .i64 tot] 23))) := by show Below _ _ _; (repeat' (first | assumption | exact Below.refl _ _ | exact Below.size (by assumption) | (refine Below.setCell ?_ ?_ _) | (refine Below.alloc ?_ ?_ _) | (refine Below.drew ?_) | (refine below_drewN ?_ _) | (refine Below.trans ?_ (Below.mono ‹Below _ _ _› ?_)) | omega | (simp; done) | (simp; omega) | (simp at *; omega)))
  have HTA : Hid (EvIn (w.alloc (Obj.cells #[.string nm, .string nd, .int .i64 ev, .int .i64 vol, .int .i64 tot] 23)) A n E) := HT.out.below (Nat.le_refl _) HW0.out
  obtain ⟨hok, hrp, hst, hyr⟩ := yErr_zero hE
  have HRP := Lib.hid hrp
  have HYR := Lib.hid hyr
  have HE := Lib.hid hE
  have HK := Lib.hid hk
  have hmm := @run_makeMap Tryd.prog
  clear hE hok hrp hst hyr hT h40 hn1 hn2 hk
  go_enter Tryd.func15, Tryd.ntmps15
  go_wp2_with (first
    | (go_at_call 29
       with_reducible refine (SY.out _ HTA.out).mono ?_
       rintro e w1 ⟨A1, N1, cap1, er, rfl, her, hI, hb1⟩
       obtain rfl : 0 = er := HE.out.symm.trans her.symm
       obtain ⟨hN, hJ⟩ := hI rfl
       clear hI
       obtain rfl := hN.symm
       have HI1 := Lib.hid hJ
       have HW1 := Lib.hid (below_step HW0.out hb1)
       have HP1 := Lib.hid (HP0.out.call hb1)
       clear hJ hb1 her hN))
  have HT1 := Lib.hid (HT.out.below (Nat.le_refl _) HW1.out)
  have HM0 : Hid (FMem w1 (w1.alloc (.map #[] 0)) w1.heap.size (yrs E from_ sec) E.Tot 0) := ⟨AMem.made _ _ _, Nat.le_refl _, by (repeat' (first | assumption | exact Below.refl _ _ | exact Below.size (by assumption) | (refine Below.setCell ?_ ?_ _) | (refine Below.alloc ?_ ?_ _) | (refine Below.drew ?_) | (refine below_drewN ?_ _) | (refine Below.trans ?_ (Below.mono ‹Below _ _ _› ?_)) | omega | (simp; done) | (simp; omega) | (simp at *; omega)))⟩
  go_loopw [31] (fun v wr => ∃ i : Nat, Hid (i ≤ n) ∧ v = .int .i64 i ∧ Hid (∀ j, j < i → brk (yrs E from_ sec) E.Tot ev vol tot j = false) ∧ Hid (FMem w1 wr w1.heap.size (yrs E from_ sec) E.Tot i)) (fun v _ => n - (RowKit.intOf v).toNat)
  case atStart => exact ⟨0, Nat.zero_le _, rfl, fun j hj => absurd hj (Nat.not_lt_zero _), HM0⟩
  case round =>
    obtain ⟨i, Hi, rfl, HB, HM⟩ := hrel
    by_cases hlt : i < n
    · have T0 : decide ((i : Int) < (n : Int)) = true := by simp <;> omega
      obtain ⟨i', hi'⟩ : ∃ z, z = i + 1 := ⟨_, rfl⟩
      have x0 : IntKind.i64.wrap ((i : Int) + 1) = (i' : Int) := by have := H40.out; rw [IntKind.wrap_i64]; omega
      have HI' : Hid (i' ≤ n) := by show i' ≤ n; omega
      have HMS : Hid (n - (RowKit.intOf (Value.int .i64 (i' : Int))).toNat < n - (RowKit.intOf (Value.int .i64 (i : Int))).toNat) := by show _ < _; simp [RowKit.intOf]; omega
      have k0 : (0 : Int) ≤ (i : Int) := by omega
      have k1 : (i : Int) < (n : Int) := by omega
      have hi40 : i ≤ 40 := by have := H40.out; omega
      obtain ⟨eb, eoff, rfl, heb, c0, c1, c2, c3⟩ := (HT1.out.below (Nat.le_refl _) HM.out.2.2).at hlt
      obtain ⟨yb, yoff, rfl, hyb, cy⟩ := (HI1.out.below (Nat.le_refl _) HM.out.2.2).at hlt
      have hbd := HRP.out.bounds hlt
      have hyb2 := (HYR.out i hlt).bound
      have hTn : ∀ j, j ≤ i → 0 ≤ E.Tot j := fun j hj => by have := HRP.out.bounds (show j < n by omega); omega
      have SW := Lib.hid fun f' t' pk w => twith (cnt (yrs E from_ sec) (yrs E from_ sec i) i : Int) (cutS (sm (yrs E from_ sec) E.Tot (yrs E from_ sec i) i)) f' t' (E.Tot i) pk (by omega) (by have := cnt_le (yrs E from_ sec) (yrs E from_ sec i) i; omega) (cut_nn (sm_nn i fun j hj => hTn j (by omega))) (cut_le _) (by omega) w
      have HPUT := Lib.hid fun wz (h : FMem w1 wz w1.heap.size (yrs E from_ sec) E.Tot i) => h.put hi40 hyb2 hTn
      have HG1 : Hid (∀ wz : World, Below w1.heap.size w1 wz → wz.cell? ⟨yb, yoff + i, none⟩ = some (.int .i64 (yrs E from_ sec i))) := fun wz hb => ((HI1.out.below (Nat.le_refl _) hb).2.resolve_left (by omega)).elim fun b' h => by
        obtain ⟨off', hA, ht⟩ := h
        injection hA with hA
        injection hA with h1 h2
        subst h1 h2
        exact ht.2 i hlt
      have HLK := Lib.hid fun wz (h : FMem w1 wz w1.heap.size (yrs E from_ sec) E.Tot i) => h.1.look hyb2
      have HLK1 := Lib.hid fun wz (h : FMem w1 wz w1.heap.size (yrs E from_ sec) E.Tot (i + 1)) => h.1.look hyb2
      have HLT := Lib.hid hlt
      have HGB : Hid (∀ wz : World, FMem w1 wz w1.heap.size (yrs E from_ sec) E.Tot i → wz.heap.size ≠ w1.heap.size) := fun wz h => by have := h.1.lt; omega
      have HEV : Hid (Blk (wr.alloc (Obj.cells #[.int .i64 (E.F i), .int .i64 (E.To i), .int .i64 (E.Tot i), .int .i64 (E.Pk i)] 33)) wr.heap.size 33 #[.int .i64 (E.F i), .int .i64 (E.To i), .int .i64 (E.Tot i), .int .i64 (E.Pk i)]) := Blk.new _ _ _
      have HA : Hid (FMem w1 (wr.alloc (Obj.cells #[.int .i64 (E.F i), .int .i64 (E.To i), .int .i64 (E.Tot i), .int .i64 (E.Pk i)] 33)) w1.heap.size (yrs E from_ sec) E.Tot i) := HM.out.call (by have := Below.refl wr.heap.size wr; (repeat' (first | assumption | exact Below.refl _ _ | exact Below.size (by assumption) | (refine Below.setCell ?_ ?_ _) | (refine Below.alloc ?_ ?_ _) | (refine Below.drew ?_) | (refine below_drewN ?_ _) | (refine Below.trans ?_ (Below.mono ‹Below _ _ _› ?_)) | omega | (simp; done) | (simp; omega) | (simp at *; omega))))
      have HGN : Hid (wr.heap.size ≠ w1.heap.size) := HGB.out _ HM.out
      go_upto_region 8 with fail
      obtain ⟨G, hG⟩ : ∃ z, z = wr.heap.size := ⟨_, rfl⟩
      rw [← hG] at HEV HGN ⊢
      generalize (wr.alloc (Obj.cells #[.int .i64 (E.F i), .int .i64 (E.To i), .int .i64 (E.Tot i), .int .i64 (E.Pk i)] 33)) = wa at HEV HA ⊢
      obtain ⟨q0, q1, q2, q3⟩ := ev_cells HEV.out
      have qy := HG1.out wa HA.out.2.2
      have qk := HLK.out wa HA.out
      have qd := HLK.out wa.drew HA.out.drew
      clear c0 c1 c2 c3 cy heb hyb hbd hyb2 hTn hi40 hlt hG
      go_cut [] from 33 to 72 (fun wx => FMem w1 wx w1.heap.size (yrs E from_ sec) E.Tot (i + 1) ∧ Blk wx G 33 #[.int .i64 (E.F i), .int .i64 (E.To i), .int .i64 (E.Tot i), .int .i64 (E.Pk i)])
      case first =>
        go_region_law (go_simp
                       go_at_call 30
                       with_reducible refine (SW.out _ _ _ _).mono ?_
                       rintro e w6 ⟨rfl, hb6⟩
                       have HM6 := Lib.hid (HA.out.drew.call hb6)
                       have HE6 := Lib.hid ((HEV.out.drewN 1).call hb6)
                       have z0 := HG1.out w6 HM6.out.2.2
                       obtain ⟨w7, hup, hm7, hb7⟩ := HPUT.out w6 HM6.out
                       have HM7 := Lib.hid hm7
                       have HE7 := Lib.hid (hb7 _ _ _ HGN.out HE6.out)
                       clear hb6 hm7 hb7)
        all_goals (go_wp2_with fail; go_meet)
        all_goals (exact ⟨HM7.out, HE7.out⟩)
      case rest =>
        obtain ⟨hf0, he0⟩ := hcut
        generalize wc = wz at hf0 he0 ⊢
        have HF0 := Lib.hid hf0
        have HE0 := Lib.hid he0
        clear hf0 he0 q0 q1 q2 q3 qy qk qd
        have SK := Lib.hid fun w => tbroken nm nd ev vol tot (cnt (yrs E from_ sec) (yrs E from_ sec i) (i + 1) : Int) (cutS (sm (yrs E from_ sec) E.Tot (yrs E from_ sec i) (i + 1))) w
        have qy := HG1.out wz HF0.out.2.2
        have qk := HLK1.out wz HF0.out
        have qd := HLK1.out wz.drew HF0.out.drew
        obtain ⟨p0, p1, p2, p3, p4⟩ := perm_cells (HP1.out.call HF0.out.2.2)
        obtain ⟨b1, hb1⟩ : ∃ z, z = decide (ev < (cnt (yrs E from_ sec) (yrs E from_ sec i) (i + 1) : Int)) := ⟨_, rfl⟩
        obtain ⟨b2, hb2⟩ : ∃ z, z = decide (tot < cutS (sm (yrs E from_ sec) E.Tot (yrs E from_ sec i) (i + 1))) := ⟨_, rfl⟩
        obtain ⟨b3, hb3⟩ : ∃ z, z = decide (vol < E.Tot i) := ⟨_, rfl⟩
        have HBRK : Hid (brk (yrs E from_ sec) E.Tot ev vol tot i = (b1 || (b2 || b3))) := by show _ = _; rw [hb1, hb2, hb3]; rfl
        have t3 := hb3.symm
        rw [← hb1, ← hb2] at SK
        clear hb1 hb2 hb3
        go_upto_region 9 with fail
        go_cut [15, 16] from 33 to 72 (fun x y wx => x = .bool b1 ∧ y = .bool b2 ∧ FMem w1 wx w1.heap.size (yrs E from_ sec) E.Tot (i + 1) ∧ Blk wx G 33 #[.int .i64 (E.F i), .int .i64 (E.To i), .int .i64 (E.Tot i), .int .i64 (E.Pk i)])
        case first =>
          go_region_law (go_simp
                         go_at_call 33
                         with_reducible refine (SK.out _).mono ?_
                         rintro e w6 ⟨rfl, hb6⟩
                         have HM6 := Lib.hid (HF0.out.drew.call hb6)
                         have HE6 := Lib.hid ((HE0.out.drewN 1).call hb6)
                         clear hb6)
          all_goals (go_wp2_with fail; go_meet)
          all_goals (exact ⟨rfl, rfl, HM6.out, HE6.out⟩)
        case rest =>
          obtain ⟨rfl, rfl, hf1, he1⟩ := hcut
          generalize wc = wv at hf1 he1 ⊢
          have HF1 := Lib.hid hf1
          have HE1 := Lib.hid he1
          have HI1' := Lib.hid hi'
          clear hf1 he1 qy qk qd p0 p1 p2 p3 p4 hi'
          obtain ⟨q0, q1, q2, q3⟩ := ev_cells HE1.out
          obtain ⟨p0, p1, p2, p3, p4⟩ := perm_cells (HP1.out.call HF1.out.2.2)
          by_cases hbb : (b1 || (b2 || b3)) = true
          · obtain ⟨rfl, rfl⟩ : (i : Int) = k ∧ 0 = er2 := by
              have hy := HBRK.out.trans hbb
              rcases HK.out with ⟨K, hK, h1, h2, h3, h4⟩ | ⟨h1, _, _⟩
              · have : K = i := by
                  rcases Nat.lt_trichotomy K i with g | g | g
                  · rw [HB.out K g] at h1; cases h1
                  · exact g
                  · rw [h2 i g] at hy; cases hy
                exact ⟨by rw [h3, this], h4.symm⟩
              · rw [h1 i HLT.out] at hy; cases hy
            cases b1 with
            | true =>
              clear hbb
              go_wp2_with fail
              go_ret2
              exact ⟨rfl, below_step HW1.out HF1.out.2.2⟩
            | false =>
              cases b2 with
              | true =>
                clear hbb
                go_wp2_with fail
                go_ret2
                exact ⟨rfl, below_step HW1.out HF1.out.2.2⟩
              | false =>
                cases b3 with
                | true =>
                  clear hbb
                  go_wp2_with fail
                  go_ret2
                  exact ⟨rfl, below_step HW1.out HF1.out.2.2⟩
                | false => exact absurd hbb (by simp)
          · have HB' : Hid (∀ j, j < i' → brk (yrs E from_ sec) E.Tot ev vol tot j = false) := by
              show ∀ j, j < i' → _
              intro j hj
              rcases Nat.lt_or_ge j i with g | g
              · exact HB.out j g
              · have h1 := HI1'.out
                obtain rfl : j = i := by omega
                rw [HBRK.out]; simpa using hbb
            have HF2 : Hid (FMem w1 wv w1.heap.size (yrs E from_ sec) E.Tot i') := by show FMem _ _ _ _ _ _; rw [HI1'.out]; exact HF1.out
            obtain rfl : b1 = false := by cases b1 <;> simp_all
            obtain rfl : b2 = false := by cases b2 <;> simp_all
            obtain rfl : b3 = false := by cases b3 <;> simp_all
            clear hbb
            go_wp2_with fail
            go_roundw
            case rel => exact ⟨i', HI', rfl, HB', HF2⟩
            case measure => exact HMS.out
    · have hin : i = n := by have := Hi.out; omega
      have T0 : decide ((i : Int) < (n : Int)) = false := by simp <;> omega
      have T0' : decide (i < n) = false := decide_eq_false hlt
      obtain ⟨rfl, rfl⟩ : 0 = k ∧ 12 = er2 := by
        rcases HK.out with ⟨K, hK, h1, _⟩ | ⟨_, h1, h2⟩
        · rw [HB.out K (by omega)] at h1; cases h1
        · exact ⟨h1.symm, h2.symm⟩
      clear hlt hin
      go_wp2_with fail
      go_ret2
      exact ⟨rfl, below_step HW1.out HM.out.2.2⟩
theorem first_ex39 (p : Nat → Bool) : ∀ n, (∃ K, K < n ∧ p K = true ∧ ∀ j, j < K → p j = false) ∨ (∀ j, j < n → p j = false) := by
  intro n
  induction n with
  | zero => exact .inr fun j hj => absurd hj (by omega)
  | succ n ih =>
    rcases ih with ⟨K, h1, h2, h3⟩ | h
    · exact .inl ⟨K, by omega, h2, h3⟩
    · cases hp : p n with
      | true => exact .inl ⟨n, by omega, hp, h⟩
      | false =>
        refine .inr fun j hj => ?_
        rcases Nat.lt_or_ge j n with g | g
        · exact h j g
        · obtain rfl : j = n := by omega
          exact hp
set_option maxRecDepth 100000 in
theorem tfirst_bad (nm nd : ByteArray) (ev vol tot : Int) (hn1 : nm.size ≤ maxLen) (hn2 : nd.size ≤ maxLen) (A : Option Addr) (n c : Nat) (E : Evs) (from_ sec : Int) (h40 : n ≤ 40) (w : World) (hT : EvIn w A n E)
    (er1 : Int) (he1 : er1 = yErr (validB nm nd ev vol tot = true) E n from_ sec) (hE : ¬ er1 = 0) :
    Calls Tryd.prog 15 #[.agg #[.string nm, .string nd, .int .i64 ev, .int .i64 vol, .int .i64 tot], .slice A n c, .int .i64 from_, .int .i64 sec] w fun e w' => e = .returned (.tuple #[.int .i64 0, .int .i64 er1]) ∧ Below w.heap.size w w' := by
  have SY := Lib.hid fun w hT => tyears nm nd ev vol tot hn1 hn2 A n c E from_ sec h40 w hT
  have HW0 : Hid (Below w.heap.size w (w.alloc (Obj.cells #[.string nm, .string nd, .int .i64 ev, .int .i64 vol, .int .i64 tot] 23))) := by show Below _ _ _; (repeat' (first | assumption | exact Below.refl _ _ | exact Below.size (by assumption) | (refine Below.setCell ?_ ?_ _) | (refine Below.alloc ?_ ?_ _) | (refine Below.drew ?_) | (refine below_drewN ?_ _) | (refine Below.trans ?_ (Below.mono ‹Below _ _ _› ?_)) | omega | (simp; done) | (simp; omega) | (simp at *; omega)))
  have HTA : Hid (EvIn (w.alloc (Obj.cells #[.string nm, .string nd, .int .i64 ev, .int .i64 vol, .int .i64 tot] 23)) A n E) := hT.below (Nat.le_refl _) HW0.out
  have HE := Lib.hid he1
  have u1 : (er1 == 0) = false := by simp [hE]
  clear he1 hE hT h40 hn1 hn2
  go_enter Tryd.func15, Tryd.ntmps15
  go_wp2_with (first
    | (go_at_call 29
       with_reducible refine (SY.out _ HTA.out).mono ?_
       rintro e w1 ⟨A1, N1, cap1, er, rfl, her, hI, hb1⟩
       obtain rfl : er1 = er := HE.out.trans her.symm
       have HW1 := Lib.hid (below_step HW0.out hb1)
       clear hI hb1 her))
  go_ret2
  exact ⟨rfl, HW1.out⟩
/-- What First answers. -/
structure FirstIs (ok : Prop) (E : Evs) (n : Nat) (from_ sec ev vol tot k er : Int) : Prop where
  out : (yErr ok E n from_ sec = er ∧ er ≠ 0 ∧ k = 0) ∨ (yErr ok E n from_ sec = 0 ∧ ((∃ K : Nat, K < n ∧ brk (yrs E from_ sec) E.Tot ev vol tot K = true ∧ (∀ j, j < K → brk (yrs E from_ sec) E.Tot ev vol tot j = false) ∧ k = K ∧ er = 0) ∨ ((∀ j, j < n → brk (yrs E from_ sec) E.Tot ev vol tot j = false) ∧ k = 0 ∧ er = 12)))
theorem FirstIs.ex (ok : Prop) (E : Evs) (n : Nat) (from_ sec ev vol tot : Int) : ∃ k er, FirstIs ok E n from_ sec ev vol tot k er := by
  by_cases h : yErr ok E n from_ sec = 0
  · rcases first_ex39 (brk (yrs E from_ sec) E.Tot ev vol tot) n with ⟨K, h1, h2, h3⟩ | h1
    · exact ⟨K, 0, ⟨.inr ⟨h, .inl ⟨K, h1, h2, h3, rfl, rfl⟩⟩⟩⟩
    · exact ⟨0, 12, ⟨.inr ⟨h, .inr ⟨h1, rfl, rfl⟩⟩⟩⟩
  · exact ⟨0, _, ⟨.inl ⟨rfl, h, rfl⟩⟩⟩
theorem tfirst (nm nd : ByteArray) (ev vol tot : Int) (hn1 : nm.size ≤ maxLen) (hn2 : nd.size ≤ maxLen) (A : Option Addr) (n c : Nat) (E : Evs) (from_ sec : Int) (h40 : n ≤ 40) (w : World) (hT : EvIn w A n E) (k er : Int) (h : FirstIs (validB nm nd ev vol tot = true) E n from_ sec ev vol tot k er) :
    Calls Tryd.prog 15 #[.agg #[.string nm, .string nd, .int .i64 ev, .int .i64 vol, .int .i64 tot], .slice A n c, .int .i64 from_, .int .i64 sec] w fun e w' => e = .returned (.tuple #[.int .i64 k, .int .i64 er]) ∧ Below w.heap.size w w' := by
  rcases h.out with ⟨h1, h2, rfl⟩ | ⟨h1, h2⟩
  · exact tfirst_bad nm nd ev vol tot hn1 hn2 A n c E from_ sec h40 w hT er h1.symm h2
  · exact tfirst_at nm nd ev vol tot hn1 hn2 A n c E from_ sec h40 w hT h1 k er h2
end Go.Proofs.YtgbnbafigjijmaaDoor

/- The walk of the law PermitBroken. -/
import Derived.Test.YtgbnbafigjijmaaDoorAwk
import Derived.Test.YtgbnbafigjijmaaDoorBrkP
namespace Go.Proofs.YtgbnbafigjijmaaDoor
open Go.RowKit Go.Maps Go.Shelf
set_option linter.unusedVariables false
set_option linter.unusedSimpArgs false

theorem brk_iff {Y T : Nat → Int} {ev vol tot : Int} {i : Nat} (h : tot ≤ 576460752303423488) : brk Y T ev vol tot i = true ↔ brkP Y T ev vol tot i := by
  unfold brk brkP
  simp only [Bool.or_eq_true, decide_eq_true_eq, cut_gt h]
/-- What a law's walk keeps: the permit's block, the events, the library's table, the frame. -/
def LCtx (w wr : World) (g : Nat) (pv : Array Value) (A : Option Addr) (n : Nat) (E : Evs) : Prop := Blk wr g 23 pv ∧ EvIn wr A n E ∧ Env wr ∧ Below w.heap.size w wr
theorem LCtx.blk {w wr : World} {g : Nat} {pv : Array Value} {A : Option Addr} {n : Nat} {E : Evs} (h : LCtx w wr g pv A n E) : Blk wr g 23 pv := h.1
theorem LCtx.ev {w wr : World} {g : Nat} {pv : Array Value} {A : Option Addr} {n : Nat} {E : Evs} (h : LCtx w wr g pv A n E) : EvIn wr A n E := h.2.1
theorem LCtx.env {w wr : World} {g : Nat} {pv : Array Value} {A : Option Addr} {n : Nat} {E : Evs} (h : LCtx w wr g pv A n E) : Env wr := h.2.2.1
theorem LCtx.bel {w wr : World} {g : Nat} {pv : Array Value} {A : Option Addr} {n : Nat} {E : Evs} (h : LCtx w wr g pv A n E) : Below w.heap.size w wr := h.2.2.2
theorem LCtx.call {w wr w' : World} {g : Nat} {pv : Array Value} {A : Option Addr} {n : Nat} {E : Evs} (h : LCtx w wr g pv A n E) (hb : Below wr.heap.size wr w') : LCtx w w' g pv A n E :=
  ⟨h.1.call hb, h.2.1.below (Nat.le_refl _) hb, h.2.2.1.below hb, below_step h.2.2.2 hb⟩
theorem LCtx.start (w : World) (pv : Array Value) {A : Option Addr} {n : Nat} {E : Evs} (hE : Env w) (hT : EvIn w A n E) : LCtx w (w.alloc (Obj.cells pv 23)) w.heap.size pv A n E := by
  have hb : Below w.heap.size w (w.alloc (Obj.cells pv 23)) := (Below.refl _ _).alloc (Nat.le_refl _) _
  exact ⟨Blk.new _ _ _, hT.below (Nat.le_refl _) hb, hE.below hb, hb⟩
theorem LCtx.alloc {w wr : World} {g : Nat} {pv : Array Value} {A : Option Addr} {n : Nat} {E : Evs} (h : LCtx w wr g pv A n E) (o : Obj) : LCtx w (wr.alloc o) g pv A n E := h.call ((Below.refl _ _).alloc (Nat.le_refl _) _)
theorem LCtx.drew {w wr : World} {g : Nat} {pv : Array Value} {A : Option Addr} {n : Nat} {E : Evs} (h : LCtx w wr g pv A n E) : LCtx w wr.drew g pv A n E := h.call ((Below.refl _ _).drew)
def encF (x : Int × Int) : List Value := [.int .i64 x.1, .string (fnm x.2)]
/-- Nothing of a list lacks in another one. -/
theorem fall (fid : FuncId) (lb : Array Value) (eg : ∀ args w, (callFunc fid args).run Tryd.prog w = .ok (.enter fid args) w) (Lb : List (Int × Int)) (A : Option Addr) (N c : Nat) (L : List (Int × Int)) (w : World) (hN : N = L.length) (hp : 0 < L.length) (hA : FndIn w A L) (hall : ∀ x, x ∈ L → hasN Lb x.1 (fnm x.2) = true)
    (hcl : ∀ (W : World) (k : Int) (s : ByteArray), Below w.heap.size w W → Calls Tryd.prog fid (#[.agg #[.int .i64 k, .string s]] ++ lb) W fun e w' => e = .returned (.bool (!hasN Lb k s)) ∧ Below w.heap.size w w') :
    Calls Tryd.prog 25 #[.slice A N c, .func (.func fid) #[] lb] w fun e w' => e = .returned (.bool false) ∧ Below w.heap.size w w' := by
  rcases hA.2 with ⟨_, rfl⟩ | ⟨b, off, rfl, ht⟩
  · simp at hp
  subst hN
  refine (AnyQ.slices_ContainsFunc Tryd.containsFuncA 2 (fun w => by kernel_rfl) (fun w => by kernel_rfl) encF (fun x => rfl) (fun x => !hasN Lb x.1 (fnm x.2)) fid lb eg b off L.length c L w (fun W x hW => hcl W x.1 (fnm x.2) hW) (Nat.le_refl _) hA.1 ht.1 (fun j hj i v hi => ?_)).mono ?_
  · obtain ⟨h0, h1⟩ := ht.2 j hj
    have e : L[j]! = (fK L j, fV L j) := by simp [fK, fV, List.getD, hj]
    rw [e] at hi
    match i with
    | 0 =>
      simp [encF] at hi
      subst hi
      simpa using h0
    | 1 =>
      simp [encF] at hi
      subst hi
      exact h1
    | i + 2 => simp [encF] at hi
  · rintro e w' ⟨rfl, hb⟩
    refine ⟨?_, hb⟩
    congr 2
    rw [List.take_length, List.any_eq_false]
    intro x hx
    rw [hall x hx]; simp
theorem has_mem {L : List (Int × Int)} {x : Int × Int} (h : x ∈ L) : hasN L x.1 (fnm x.2) = true := by
  unfold hasN
  rw [List.any_eq_true]
  exact ⟨x, h, by simp⟩
set_option maxRecDepth 100000 in
/-- What stands not in the list of a cell. -/
theorem closB (G : Nat) (A : Option Addr) (N c : Nat) (L : List (Int × Int)) (hN : N = L.length) (w : World) (hA : FndIn w A L) (hc : w.cell? ⟨G, 0, none⟩ = some (.slice A N c)) (hG : G < w.heap.size) (W : World) (k : Int) (s : ByteArray) (hW : Below w.heap.size w W) :
    Calls Tryd.prog 26 (#[.agg #[.int .i64 k, .string s]] ++ #[.pointer (some ⟨G, 0, none⟩)]) W fun e w' => e = .returned (.bool (!hasN L k s)) ∧ Below w.heap.size w w' := by
  have c0 : W.cell? ⟨G, 0, none⟩ = some (.slice A N c) := (hW.cell (p := ⟨G, 0, none⟩) hG).trans hc
  have hGW : G < W.heap.size := Nat.lt_of_lt_of_le hG hW.size
  have HFW := Lib.hid (hA.below (Nat.le_refl _) hW)
  have HWW := Lib.hid hW
  have SC := Lib.hid fun w hA => fcontains A N c L k s w hN hA
  have HX0 : Hid (Below W.heap.size W (W.alloc (Obj.cells #[.int .i64 k, .string s] 40))) := (Below.refl _ _).alloc (Nat.le_refl _) _
  generalize hasN L k s = b at SC ⊢
  clear hA hc hW hN
  show Calls _ _ #[.agg #[.int .i64 k, .string s], .pointer (some ⟨G, 0, none⟩)] _ _
  go_enter Tryd.func26, Tryd.ntmps26
  go_wp2_with (first
    | (go_at_call 13
       with_reducible refine (SC.out _ (HFW.out.below (Nat.le_refl _) HX0.out)).mono ?_
       rintro e w1 ⟨rfl, hb1⟩
       have HB1 := Lib.hid (below_step HX0.out hb1)
       clear hb1))
  go_ret
  refine ⟨by cases b <;> rfl, ?_⟩
  exact HWW.out.trans (HB1.out.mono HWW.out.size)
set_option maxRecDepth 100000 in
set_option maxHeartbeats 8000000 in
theorem broken_walk (nm nd : ByteArray) (ev vol tot : Int) (hn1 : nm.size ≤ maxLen) (hn2 : nd.size ≤ maxLen) (A : Option Addr) (n c : Nat) (hnc : n ≤ c) (E : Evs) (from_ sec : Int) (w : World) (hE : Env w) (hT : EvIn w A n E) :
    Calls Tryd.prog 6 #[.agg #[.string nm, .string nd, .int .i64 ev, .int .i64 vol, .int .i64 tot], .slice A n c, .int .i64 from_, .int .i64 sec] w fun e w' => e = .returned (.bool true) ∧ Below w.heap.size w w' := by
  have SA := Lib.hid fun w hE => caw w hE
  have SL := Lib.hid fun w => tlong nm nd ev vol tot w
  have H0 := Lib.hid (LCtx.start w #[.string nm, .string nd, .int .i64 ev, .int .i64 vol, .int .i64 tot] hE hT)
  by_cases hlong : 60 < nm.size ∨ 60 < nd.size
  · rw [decide_eq_true hlong] at SL
    clear hlong hE hT
    go_enter Tryd.func6, Tryd.ntmps6
    go_wp2_with (first
      | (go_at_call 9
         with_reducible refine (SA.out _ H0.out.env).mono ?_
         rintro e w1 ⟨rfl, hb1⟩
         have H1 := Lib.hid (H0.out.call hb1)
         obtain ⟨p0, p1, p2, p3, p4⟩ := perm_cells H1.out.blk
         clear hb1)
      | (go_at_call 10
         with_reducible refine (SL.out _).mono ?_
         rintro e w2 ⟨rfl, hb2⟩
         have H2 := Lib.hid (H1.out.call hb2)
         clear hb2))
    go_ret
    exact ⟨rfl, H2.out.bel⟩
  rw [decide_eq_false hlong] at SL
  by_cases h40 : 40 < n
  · have t1 : decide ((40 : Int) < (n : Int)) = true := decide_eq_true (by omega)
    have t1' : decide (40 < n) = true := decide_eq_true h40
    clear hlong hE hT h40
    go_enter Tryd.func6, Tryd.ntmps6
    go_wp2_with (first
      | (go_at_call 9
         with_reducible refine (SA.out _ H0.out.env).mono ?_
         rintro e w1 ⟨rfl, hb1⟩
         have H1 := Lib.hid (H0.out.call hb1)
         obtain ⟨p0, p1, p2, p3, p4⟩ := perm_cells H1.out.blk
         clear hb1)
      | (go_at_call 10
         with_reducible refine (SL.out _).mono ?_
         rintro e w2 ⟨rfl, hb2⟩
         have H2 := Lib.hid (H1.out.call hb2)
         clear hb2))
    go_ret
    exact ⟨rfl, H2.out.bel⟩
  have t1 : decide ((40 : Int) < (n : Int)) = false := decide_eq_false (by omega)
  have t1' : decide (40 < n) = false := decide_eq_false h40
  obtain ⟨er, her⟩ : ∃ z, z = yErr (validB nm nd ev vol tot = true) E n from_ sec := ⟨_, rfl⟩
  have SC := Lib.hid fun w hE hT => tcheck nm nd ev vol tot hn1 hn2 A n c E from_ sec (by omega) w hE hT er her
  obtain ⟨k, er2, hfi⟩ := FirstIs.ex (validB nm nd ev vol tot = true) E n from_ sec ev vol tot
  have SF := Lib.hid fun w hT => tfirst nm nd ev vol tot hn1 hn2 A n c E from_ sec (by omega) w hT k er2 hfi
  by_cases h0 : er = 0
  · subst h0
    obtain ⟨hok, hrp, hst, hyr⟩ := yErr_zero her.symm
    have hlim := (validB_true.1 hok).2.2
    unfold limR at hlim
    have hTn : ∀ i, i < n → 0 ≤ E.Tot i := fun i hi => by have := hrp.bounds hi; omega
    have hcl : ∀ m, m ≤ n → chkL (validB nm nd ev vol tot = true) E m from_ sec ev vol tot = finds (yrs E from_ sec) E.Tot m ev vol tot := fun m hm => by unfold chkL; rw [if_pos (yErr_prefix her.symm hm)]
    have hfn : ∀ m, m ≤ n → (finds (yrs E from_ sec) E.Tot m ev vol tot = [] ↔ ∀ j, j < m → brk (yrs E from_ sec) E.Tot ev vol tot j = false) := fun m hm => by
      rw [finds_nil (fun i hi => hTn i (by omega)) hlim.1 hlim.2.2.2.2.1]
      constructor
      · intro h j hj
        rw [Bool.eq_false_iff]
        exact fun hb => h j hj ((brk_iff hlim.2.2.2.2.2).1 hb)
      · intro h j hj hb
        have h2 := (brk_iff (Y := yrs E from_ sec) (T := E.Tot) (ev := ev) (vol := vol) (i := j) hlim.2.2.2.2.2).2 hb
        rw [h j hj] at h2; cases h2
    have hLn := hcl n (Nat.le_refl _)
    rcases hfi.out with ⟨h1, h2, _⟩ | ⟨_, ⟨K, hK, hb, hbb, rfl, rfl⟩ | ⟨hno, rfl, rfl⟩⟩
    · exact absurd (her.trans h1).symm h2
    · obtain ⟨b0, o0, rfl, _, _⟩ := hT.at hK
      obtain ⟨K', hK'⟩ : ∃ z, z = K + 1 := ⟨_, rfl⟩
      have hL0 : chkL (validB nm nd ev vol tot = true) E K from_ sec ev vol tot = [] := (hcl K (by omega)).trans ((hfn K (by omega)).2 hbb)
      have hL1 := hcl K' (by omega)
      have hne1 : finds (yrs E from_ sec) E.Tot K' ev vol tot ≠ [] := fun h => by
        have := (hfn K' (by omega)).1 h K (by omega)
        rw [hb] at this; cases this
      have hne : finds (yrs E from_ sec) E.Tot n ev vol tot ≠ [] := fun h => by
        have := (hfn n (Nat.le_refl _)).1 h K hK
        rw [hb] at this; cases this
      have hle := finds_len (Y := yrs E from_ sec) (T := E.Tot) (m := K') (n := n) (ev := ev) (vol := vol) (tot := tot) hTn (yrs_asc her.symm) (by omega)
      have hmem : ∀ x, x ∈ finds (yrs E from_ sec) E.Tot K' ev vol tot → hasN (finds (yrs E from_ sec) E.Tot n ev vol tot) x.1 (fnm x.2) = true := fun x hx => has_mem (finds_more hTn (by omega) hx)
      have e0 := yErr_prefix her.symm (show K ≤ n by omega)
      have e1 := yErr_prefix her.symm (show K' ≤ n by omega)
      have SC2 := Lib.hid fun w hE hT => tcheck nm nd ev vol tot hn1 hn2 (some ⟨b0, o0, none⟩) K c E from_ sec (by omega) w hE hT 0 e0.symm
      have SC3 := Lib.hid fun w hE hT => tcheck nm nd ev vol tot hn1 hn2 (some ⟨b0, o0, none⟩) K' c E from_ sec (by omega) w hE hT 0 e1.symm
      obtain ⟨La, hLa⟩ : ∃ z, z = finds (yrs E from_ sec) E.Tot n ev vol tot := ⟨_, rfl⟩
      obtain ⟨Lb, hLb⟩ : ∃ z, z = finds (yrs E from_ sec) E.Tot K' ev vol tot := ⟨_, rfl⟩
      rw [← hLa] at hLn hne hle hmem
      rw [← hLb] at hL1 hne1 hle hmem
      have pa : 0 < La.length := List.length_pos_iff.2 hne
      have pb : 0 < Lb.length := List.length_pos_iff.2 hne1
      have HLn := Lib.hid hLn
      have HL0 := Lib.hid hL0
      have HL1 := Lib.hid hL1
      have HMEM := Lib.hid hmem
      have HPB := Lib.hid pb
      obtain ⟨Na, hNa⟩ : ∃ z, z = La.length := ⟨_, rfl⟩
      obtain ⟨Nb, hNb⟩ : ∃ z, z = Lb.length := ⟨_, rfl⟩
      have HNa := Lib.hid hNa
      have HNb := Lib.hid hNb
      rw [← hNa] at pa hle
      rw [← hNb] at pb hle
      have k0 : (0 : Int) ≤ (K : Int) := by omega
      have k1 : (K : Int) ≤ (c : Int) := by omega
      have k1' : K ≤ c := by omega
      have k2 : (0 : Int) ≤ (K' : Int) := by omega
      have k3 : (K' : Int) ≤ (c : Int) := by omega
      have k3' : K' ≤ c := by omega
      have x1 : IntKind.i64.wrap ((K : Int) + 1) = (K' : Int) := by rw [IntKind.wrap_i64]; omega
      have t2 : decide ((K : Int) < 0) = false := decide_eq_false (by omega)
      have t3 : decide ((n : Int) ≤ (K : Int)) = false := decide_eq_false (by omega)
      have t3' : decide (n ≤ K) = false := decide_eq_false (by omega)
      have t4 : ((Na : Int) == 0) = false := by simp; omega
      have t4' : (Na == 0) = false := by simp; omega
      have t5 : ((Nb : Int) == 0) = false := by simp; omega
      have t5' : (Nb == 0) = false := by simp; omega
      have n4 : ¬ Na = 0 := by omega
      have n5 : ¬ Nb = 0 := by omega
      have t6 : decide ((Na : Int) < (Nb : Int)) = false := decide_eq_false (by omega)
      have t6' : decide (Na < Nb) = false := decide_eq_false (by omega)
      have HKn : Hid (K ≤ n ∧ K' ≤ n) := ⟨by omega, by omega⟩
      clear hlong h40 hE hT her hok hrp hst hyr hlim hTn hcl hfn hLn hn1 hn2 hfi hK hb hbb hK' hL0 hL1 hne1 hne hle hmem e0 e1 hLa hLb hNa hNb pa pb
      go_enter Tryd.func6, Tryd.ntmps6
      go_upto_region 13 with (first
        | (go_at_call 9
           with_reducible refine (SA.out _ H0.out.env).mono ?_
           rintro e w1 ⟨rfl, hb1⟩
           have H1 := Lib.hid (H0.out.call hb1)
           obtain ⟨p0, p1, p2, p3, p4⟩ := perm_cells H1.out.blk
           clear hb1)
        | (go_at_call 10
           with_reducible refine (SL.out _).mono ?_
           rintro e w2 ⟨rfl, hb2⟩
           have H2 := Lib.hid (H1.out.call hb2)
           obtain ⟨p0, p1, p2, p3, p4⟩ := perm_cells H2.out.blk
           clear hb2)
        | (go_at_call 11
           with_reducible refine (SC.out _ H2.out.env H2.out.ev).mono ?_
           rintro e w3 ⟨A3, N3, c3, rfl, hN3, hF3, hb3⟩
           rw [HLn.out] at hN3 hF3
           obtain rfl : N3 = Na := hN3.trans HNa.out.symm
           have H3 := Lib.hid (H2.out.call hb3)
           obtain ⟨p0, p1, p2, p3, p4⟩ := perm_cells H3.out.blk
           have pl := H3.out.blk.lt
           have H3a := Lib.hid (H3.out.alloc (Obj.cells #[.slice A3 N3 c3] 27))
           have BA3 := Lib.hid (Blk.new w3 27 #[.slice A3 N3 c3])
           have HF3 := Lib.hid (hF3.below (Nat.le_refl _) ((Below.refl _ w3).alloc (Nat.le_refl _) (Obj.cells #[.slice A3 N3 c3] 27)))
           clear hF3 hb3 hN3)
        | (go_at_call 15
           with_reducible refine (SF.out _ H3a.out.ev).mono ?_
           rintro e w4 ⟨rfl, hb4⟩
           have H4 := Lib.hid (H3a.out.call hb4)
           have BA4 := Lib.hid (BA3.out.call hb4)
           have HF4 := Lib.hid (HF3.out.below (Nat.le_refl _) hb4)
           have q0 := BA4.out.cell 0
           simp only [List.getElem?_toArray, List.getElem?_cons_zero] at q0
           obtain ⟨p0, p1, p2, p3, p4⟩ := perm_cells H4.out.blk
           clear hb4))
      go_cut [13, 14] from 77 to 86 (fun x y wx => ∃ A5 c5, x = .slice A5 0 c5 ∧ y = .int .i64 0 ∧ LCtx w wx w.heap.size #[.string nm, .string nd, .int .i64 ev, .int .i64 vol, .int .i64 tot] (some ⟨b0, o0, none⟩) n E ∧ Blk wx w3.heap.size 27 #[.slice A3 N3 c3] ∧ FndIn wx A3 La)
      case first =>
        go_region_law (go_simp
                       go_at_call 11
                       with_reducible refine (SC2.out _ H4.out.drew.env (H4.out.drew.ev.take HKn.out.1)).mono ?_
                       rintro e w5 ⟨A5, N5, c5, rfl, hN5, hF5, hb5⟩
                       rw [HL0.out] at hN5
                       obtain rfl : N5 = 0 := hN5
                       have H5 := Lib.hid (H4.out.drew.call hb5)
                       have BA5 := Lib.hid ((BA4.out.drewN 1).call hb5)
                       have HF5 := Lib.hid ((HF4.out.below (Nat.le_refl _) ((Below.refl _ w4).drew)).below (Nat.le_refl _) hb5)
                       clear hF5 hb5)
        all_goals (go_wp2_with fail; go_meet)
        all_goals (exact ⟨_, _, rfl, rfl, H5.out, BA5.out, HF5.out⟩)
      case rest =>
        obtain ⟨A5, c5, rfl, rfl, h5, ba5, hf5⟩ := hcut
        generalize wc = w5 at h5 ba5 hf5 ⊢
        have H5 := Lib.hid h5
        have BA5 := Lib.hid ba5
        have HF5 := Lib.hid hf5
        clear h5 ba5 hf5 p0 p1 p2 p3 p4 q0 pl
        obtain ⟨p0, p1, p2, p3, p4⟩ := perm_cells H5.out.blk
        go_upto_region 14 with fail
        go_cut [15, 16] from 87 to 97 (fun x y wx => ∃ A6 c6, x = .slice A6 Nb c6 ∧ y = .int .i64 0 ∧ LCtx w wx w.heap.size #[.string nm, .string nd, .int .i64 ev, .int .i64 vol, .int .i64 tot] (some ⟨b0, o0, none⟩) n E ∧ Blk wx w3.heap.size 27 #[.slice A3 N3 c3] ∧ FndIn wx A3 La ∧ FndIn wx A6 Lb)
        case first =>
          go_region_law (go_simp
                         go_at_call 11
                         with_reducible refine (SC3.out _ H5.out.drew.env (H5.out.drew.ev.take HKn.out.2)).mono ?_
                         rintro e w6 ⟨A6, N6, c6, rfl, hN6, hF6, hb6⟩
                         rw [HL1.out] at hN6 hF6
                         obtain rfl : N6 = Nb := hN6.trans HNb.out.symm
                         have H6 := Lib.hid (H5.out.drew.call hb6)
                         have BA6 := Lib.hid ((BA5.out.drewN 1).call hb6)
                         have HF6 := Lib.hid ((HF5.out.below (Nat.le_refl _) ((Below.refl _ w5).drew)).below (Nat.le_refl _) hb6)
                         have HG6 := Lib.hid hF6
                         clear hF6 hb6 hN6)
          all_goals (go_wp2_with fail; go_meet)
          all_goals (exact ⟨_, _, rfl, rfl, H6.out, BA6.out, HF6.out, HG6.out⟩)
        case rest =>
          obtain ⟨A6, c6, rfl, rfl, h6, ba6, hf6, hg6⟩ := hcut
          generalize wc = w6 at h6 ba6 hf6 hg6 ⊢
          have H6 := Lib.hid h6
          have q0 := ba6.cell 0
          simp only [List.getElem?_toArray, List.getElem?_cons_zero] at q0
          have HCF := Lib.hid (fall 26 #[.pointer (some ⟨w3.heap.size, 0, none⟩)] (enters_of Tryd.func26 (by kernel_rfl) rfl) La A6 Nb c6 Lb w6 HNb.out HPB.out hg6 HMEM.out (fun W k s hW => closB w3.heap.size A3 N3 c3 La HNa.out w6 hf6 q0 ba6.lt W k s hW))
          clear h6 ba6 hf6 hg6 p0 p1 p2 p3 p4
          go_wp2_with (first
            | (go_at_call 25
               with_reducible refine HCF.out.mono ?_
               rintro e w7 ⟨rfl, hb7⟩
               have H7 := Lib.hid (H6.out.call hb7)
               clear hb7))
          go_ret
          exact ⟨rfl, H7.out.bel⟩
    · have hLe : chkL (validB nm nd ev vol tot = true) E n from_ sec ev vol tot = [] := hLn.trans ((hfn n (Nat.le_refl _)).2 hno)
      have HLe := Lib.hid hLe
      clear hlong h40 hE hT her hok hrp hst hyr hlim hTn hcl hfn hLn hno hLe hn1 hn2 hfi
      go_enter Tryd.func6, Tryd.ntmps6
      go_wp2_with (first
        | (go_at_call 9
           with_reducible refine (SA.out _ H0.out.env).mono ?_
           rintro e w1 ⟨rfl, hb1⟩
           have H1 := Lib.hid (H0.out.call hb1)
           obtain ⟨p0, p1, p2, p3, p4⟩ := perm_cells H1.out.blk
           clear hb1)
        | (go_at_call 10
           with_reducible refine (SL.out _).mono ?_
           rintro e w2 ⟨rfl, hb2⟩
           have H2 := Lib.hid (H1.out.call hb2)
           obtain ⟨p0, p1, p2, p3, p4⟩ := perm_cells H2.out.blk
           clear hb2)
        | (go_at_call 11
           with_reducible refine (SC.out _ H2.out.env H2.out.ev).mono ?_
           rintro e w3 ⟨A3, N3, c3, rfl, hN3, hF3, hb3⟩
           rw [HLe.out] at hN3 hF3
           obtain rfl : N3 = 0 := hN3
           have H3 := Lib.hid (H2.out.call hb3)
           obtain ⟨p0, p1, p2, p3, p4⟩ := perm_cells H3.out.blk
           have pl := H3.out.blk.lt
           have H3a := Lib.hid (H3.out.alloc (Obj.cells #[.slice A3 0 c3] 27))
           have BA3 := Lib.hid (Blk.new w3 27 #[.slice A3 0 c3])
           clear hF3 hb3)
        | (go_at_call 15
           with_reducible refine (SF.out _ H3a.out.ev).mono ?_
           rintro e w4 ⟨rfl, hb4⟩
           have H4 := Lib.hid (H3a.out.call hb4)
           have q0 := (BA3.out.call hb4).cell 0
           simp only [List.getElem?_toArray, List.getElem?_cons_zero] at q0
           clear hb4))
      go_ret
      exact ⟨rfl, H4.out.bel⟩
  · have hcl : chkL (validB nm nd ev vol tot = true) E n from_ sec ev vol tot = [] := by unfold chkL; rw [if_neg (by rw [← her]; exact h0)]
    have HLe := Lib.hid hcl
    obtain ⟨rfl, rfl⟩ : er2 = er ∧ k = 0 := by
      rcases hfi.out with ⟨h1, _, h3⟩ | ⟨h1, _⟩
      · exact ⟨h1.symm.trans her.symm, h3⟩
      · exact absurd (her.trans h1) h0
    have n1 : (er2 == 0) = false := by simp [h0]
    clear hlong h40 hE hT her hcl hn1 hn2 hfi h0
    go_enter Tryd.func6, Tryd.ntmps6
    go_wp2_with (first
      | (go_at_call 9
         with_reducible refine (SA.out _ H0.out.env).mono ?_
         rintro e w1 ⟨rfl, hb1⟩
         have H1 := Lib.hid (H0.out.call hb1)
         obtain ⟨p0, p1, p2, p3, p4⟩ := perm_cells H1.out.blk
         clear hb1)
      | (go_at_call 10
         with_reducible refine (SL.out _).mono ?_
         rintro e w2 ⟨rfl, hb2⟩
         have H2 := Lib.hid (H1.out.call hb2)
         obtain ⟨p0, p1, p2, p3, p4⟩ := perm_cells H2.out.blk
         clear hb2)
      | (go_at_call 11
         with_reducible refine (SC.out _ H2.out.env H2.out.ev).mono ?_
         rintro e w3 ⟨A3, N3, c3, rfl, hN3, hF3, hb3⟩
         rw [HLe.out] at hN3 hF3
         obtain rfl : N3 = 0 := hN3
         have H3 := Lib.hid (H2.out.call hb3)
         obtain ⟨p0, p1, p2, p3, p4⟩ := perm_cells H3.out.blk
         have pl := H3.out.blk.lt
         have H3a := Lib.hid (H3.out.alloc (Obj.cells #[.slice A3 0 c3] 27))
         have BA3 := Lib.hid (Blk.new w3 27 #[.slice A3 0 c3])
         clear hF3 hb3)
      | (go_at_call 15
         with_reducible refine (SF.out _ H3a.out.ev).mono ?_
         rintro e w4 ⟨rfl, hb4⟩
         have H4 := Lib.hid (H3a.out.call hb4)
         have q0 := (BA3.out.call hb4).cell 0
         simp only [List.getElem?_toArray, List.getElem?_cons_zero] at q0
         clear hb4))
    go_ret
    exact ⟨by simp, H4.out.bel⟩
end Go.Proofs.YtgbnbafigjijmaaDoor

/- The walk of the law PermitMerged. -/
import Derived.Test.YtgbnbafigjijmaaDoorBrk
namespace Go.Proofs.YtgbnbafigjijmaaDoor
open Go.RowKit Go.Maps Go.Shelf
set_option linter.unusedVariables false
set_option linter.unusedSimpArgs false

set_option maxRecDepth 100000 in
theorem ifunc_nil (A : Option Addr) (c : Nat) (f : Value) (w : World) : Calls Tryd.prog 50 #[.slice A 0 c, f] w fun e w' => e = .returned (.int .i64 (-1)) ∧ w = w' := by
  go_enter Tryd.func50, Tryd.ntmps50
  go_wp2_with fail
  go_loop [8] (fun v => v = .int .i64 0) (fun _ => 0)
  case atStart => rfl
  case round =>
    subst hrel
    go_wp2_with fail
    go_ret
    exact ⟨rfl, rfl⟩
set_option maxRecDepth 100000 in
theorem fall_nil (A : Option Addr) (c : Nat) (f : Value) (w : World) : Calls Tryd.prog 25 #[.slice A 0 c, f] w fun e w' => e = .returned (.bool false) ∧ Below w.heap.size w w' := by
  have SI := Lib.hid fun w => ifunc_nil A c f w
  go_enter Tryd.func25, Tryd.ntmps25
  go_wp2_with (first | (go_at_call 50; (with_reducible refine (SI.out _).mono ?_); rintro e w' ⟨rfl, rfl⟩))
  go_ret
  exact ⟨rfl, Below.refl _ _⟩
theorem fall0 (fid : FuncId) (lb : Array Value) (eg : ∀ args w, (callFunc fid args).run Tryd.prog w = .ok (.enter fid args) w) (Lb : List (Int × Int)) (A : Option Addr) (N c : Nat) (L : List (Int × Int)) (w : World) (hN : N = L.length) (hA : FndIn w A L) (hall : ∀ x, x ∈ L → hasN Lb x.1 (fnm x.2) = true)
    (hcl : ∀ (W : World) (k : Int) (s : ByteArray), Below w.heap.size w W → Calls Tryd.prog fid (#[.agg #[.int .i64 k, .string s]] ++ lb) W fun e w' => e = .returned (.bool (!hasN Lb k s)) ∧ Below w.heap.size w w') :
    Calls Tryd.prog 25 #[.slice A N c, .func (.func fid) #[] lb] w fun e w' => e = .returned (.bool false) ∧ Below w.heap.size w w' := by
  rcases Nat.eq_zero_or_pos L.length with h0 | h0
  · rw [hN, h0]; exact fall_nil A c _ w
  · exact fall fid lb eg Lb A N c L w hN h0 hA hall hcl
set_option maxRecDepth 100000 in
/-- What stands not in the list of a cell. -/
theorem closM (G : Nat) (A : Option Addr) (N c : Nat) (L : List (Int × Int)) (hN : N = L.length) (w : World) (hA : FndIn w A L) (hc : w.cell? ⟨G, 0, none⟩ = some (.slice A N c)) (hG : G < w.heap.size) (W : World) (k : Int) (s : ByteArray) (hW : Below w.heap.size w W) :
    Calls Tryd.prog 28 (#[.agg #[.int .i64 k, .string s]] ++ #[.pointer (some ⟨G, 0, none⟩)]) W fun e w' => e = .returned (.bool (!hasN L k s)) ∧ Below w.heap.size w w' := by
  have c0 : W.cell? ⟨G, 0, none⟩ = some (.slice A N c) := (hW.cell (p := ⟨G, 0, none⟩) hG).trans hc
  have hGW : G < W.heap.size := Nat.lt_of_lt_of_le hG hW.size
  have HFW := Lib.hid (hA.below (Nat.le_refl _) hW)
  have HWW := Lib.hid hW
  have SC := Lib.hid fun w hA => fcontains A N c L k s w hN hA
  have HX0 : Hid (Below W.heap.size W (W.alloc (Obj.cells #[.int .i64 k, .string s] 40))) := (Below.refl _ _).alloc (Nat.le_refl _) _
  generalize hasN L k s = b at SC ⊢
  clear hA hc hW hN
  show Calls _ _ #[.agg #[.int .i64 k, .string s], .pointer (some ⟨G, 0, none⟩)] _ _
  go_enter Tryd.func28, Tryd.ntmps28
  go_wp2_with (first
    | (go_at_call 13
       with_reducible refine (SC.out _ (HFW.out.below (Nat.le_refl _) HX0.out)).mono ?_
       rintro e w1 ⟨rfl, hb1⟩
       have HB1 := Lib.hid (below_step HX0.out hb1)
       clear hb1))
  go_ret
  refine ⟨by cases b <;> rfl, ?_⟩
  exact HWW.out.trans (HB1.out.mono HWW.out.size)
theorem yErr_ok {a b : Prop} (ha : a) (hb : b) (E : Evs) (n : Nat) (from_ sec : Int) : yErr a E n from_ sec = yErr b E n from_ sec := by
  rw [show a = b from propext ⟨fun _ => hb, fun _ => ha⟩]
theorem brkP_less {Y T : Nat → Int} {ev vol tot evm volm totm : Int} {i : Nat} (h1 : evm ≤ ev) (h2 : volm ≤ vol) (h3 : totm ≤ tot) (h : brkP Y T ev vol tot i) : brkP Y T evm volm totm i := by
  rcases h with h | h | h
  · exact .inl (by omega)
  · exact .inr (.inl (by omega))
  · exact .inr (.inr (by omega))
theorem first_less {a b : Prop} {E : Evs} {n : Nat} {from_ sec ev vol tot evm volm totm k kp g : Int} (hp : FirstIs a E n from_ sec ev vol tot kp 0) (hm : FirstIs b E n from_ sec evm volm totm k g) (hb : b) (ha : a) (h1 : evm ≤ ev) (h2 : volm ≤ vol) (h3 : totm ≤ tot) (h4 : tot ≤ 576460752303423488) : g = 0 ∧ k ≤ kp := by
  rcases hp.out with ⟨_, h, _⟩ | ⟨he, ⟨K, hK, hb1, hb2, rfl, _⟩ | ⟨_, _, h⟩⟩
  · omega
  · have hbr := (brk_iff (by omega)).2 (brkP_less h1 h2 h3 ((brk_iff h4).1 hb1))
    rcases hm.out with ⟨h, h', _⟩ | ⟨_, ⟨K2, hK2, c1, c2, rfl, rfl⟩ | ⟨hno, _, _⟩⟩
    · rw [yErr_ok hb ha] at h
      exact absurd (h.symm.trans he) h'
    · refine ⟨rfl, ?_⟩
      rcases Nat.lt_or_ge K K2 with x | x
      · rw [c2 K x] at hbr; cases hbr
      · omega
    · rw [hno K hK] at hbr; cases hbr
  · omega
theorem chk_less {a b : Prop} {E : Evs} {n : Nat} {from_ sec ev vol tot evm volm totm : Int} (ha : a) (hb : b) (h1 : evm ≤ ev) (h2 : volm ≤ vol) (h3 : totm ≤ tot) : ∀ x, x ∈ chkL a E n from_ sec ev vol tot → hasN (chkL b E n from_ sec evm volm totm) x.1 (fnm x.2) = true := by
  intro x hx
  unfold chkL at hx ⊢
  rw [yErr_ok ha hb] at hx
  split at hx
  · rename_i h
    rw [if_pos h]
    exact has_mem (finds_lesser h1 h2 h3 hx)
  · cases hx
/-- What the loop over both permits keeps. -/
def RC (w wr : World) (ga : Nat) (pa : Array Value) (gc : Nat) (ca : Array Value) (A : Option Addr) (L : List (Int × Int)) (B : Option Addr) (n : Nat) (E : Evs) : Prop := Blk wr ga 23 pa ∧ Blk wr gc 27 ca ∧ FndIn wr A L ∧ EvIn wr B n E ∧ Env wr ∧ Below w.heap.size w wr
section
variable {w wr w' : World} {ga : Nat} {pa : Array Value} {gc : Nat} {ca : Array Value} {A : Option Addr} {L : List (Int × Int)} {B : Option Addr} {n : Nat} {E : Evs}
theorem RC.call (h : RC w wr ga pa gc ca A L B n E) (hb : Below wr.heap.size wr w') : RC w w' ga pa gc ca A L B n E :=
  ⟨h.1.call hb, h.2.1.call hb, h.2.2.1.below (Nat.le_refl _) hb, h.2.2.2.1.below (Nat.le_refl _) hb, h.2.2.2.2.1.below hb, below_step h.2.2.2.2.2 hb⟩
theorem RC.ev (h : RC w wr ga pa gc ca A L B n E) : EvIn wr B n E := h.2.2.2.1
theorem RC.env (h : RC w wr ga pa gc ca A L B n E) : Env wr := h.2.2.2.2.1
theorem RC.bel (h : RC w wr ga pa gc ca A L B n E) : Below w.heap.size w wr := h.2.2.2.2.2
theorem RC.alloc (h : RC w wr ga pa gc ca A L B n E) (o : Obj) : RC w (wr.alloc o) ga pa gc ca A L B n E := h.call ((Below.refl _ _).alloc (Nat.le_refl _) _)
end
theorem set_ctx {w wr : World} {g : Nat} {pv qv : Array Value} {A : Option Addr} {n : Nat} {E : Evs} {u : Value} (h : LCtx w wr g pv A n E) (hw : w.heap.size ≤ g) (hne : ∀ b, b < w.heap.size → b ≠ g + 1) (hT : EvIn w A n E) (hE : Env w) : LCtx w (wr.setCell ⟨g + 1, 1, none⟩ u) g pv A n E := by
  have hb : Below w.heap.size w (wr.setCell ⟨g + 1, 1, none⟩ u) := h.bel.setCell (p := ⟨g + 1, 1, none⟩) (by show w.heap.size ≤ g + 1; omega) _
  exact ⟨h.blk.far (by show g ≠ g + 1; omega) _, hT.below (Nat.le_refl _) hb, hE.below hb, hb⟩
set_option maxRecDepth 100000 in
set_option maxHeartbeats 8000000 in
theorem merged_walk (nm nd : ByteArray) (ev vol tot : Int) (hn1 : nm.size ≤ maxLen) (hn2 : nd.size ≤ maxLen) (qm qd : ByteArray) (ev' vol' tot' : Int) (hn3 : qm.size ≤ maxLen) (hn4 : qd.size ≤ maxLen) (A : Option Addr) (n c : Nat) (E : Evs) (from_ sec : Int) (w : World) (hE : Env w) (hT : EvIn w A n E) :
    Calls Tryd.prog 8 #[.agg #[.string nm, .string nd, .int .i64 ev, .int .i64 vol, .int .i64 tot], .agg #[.string qm, .string qd, .int .i64 ev', .int .i64 vol', .int .i64 tot'], .slice A n c, .int .i64 from_, .int .i64 sec] w fun e w' => e = .returned (.bool true) ∧ Below w.heap.size w w' := by
  have SA := Lib.hid fun w hE => caw w hE
  have SLp := Lib.hid fun w => tlong nm nd ev vol tot w
  have SLq := Lib.hid fun w => tlong qm qd ev' vol' tot' w
  have H0 := Lib.hid ((LCtx.start w #[.string nm, .string nd, .int .i64 ev, .int .i64 vol, .int .i64 tot] hE hT).alloc (Obj.cells #[.string qm, .string qd, .int .i64 ev', .int .i64 vol', .int .i64 tot'] 23))
  have B0 : Hid (Blk ((w.alloc (Obj.cells #[.string nm, .string nd, .int .i64 ev, .int .i64 vol, .int .i64 tot] 23)).alloc (Obj.cells #[.string qm, .string qd, .int .i64 ev', .int .i64 vol', .int .i64 tot'] 23)) (w.heap.size + 1) 23 #[.string qm, .string qd, .int .i64 ev', .int .i64 vol', .int .i64 tot']) := by
    have h := Blk.new (w.alloc (Obj.cells #[.string nm, .string nd, .int .i64 ev, .int .i64 vol, .int .i64 tot] 23)) 23 #[.string qm, .string qd, .int .i64 ev', .int .i64 vol', .int .i64 tot']
    rw [show (w.alloc (Obj.cells #[.string nm, .string nd, .int .i64 ev, .int .i64 vol, .int .i64 tot] 23)).heap.size = w.heap.size + 1 by simp] at h
    exact h
  have HE := Lib.hid hE
  have HT := Lib.hid hT
  by_cases hlp : 60 < nm.size ∨ 60 < nd.size
  · rw [decide_eq_true hlp] at SLp
    clear hlp hE hT
    go_enter Tryd.func8, Tryd.ntmps8
    go_wp2_with (first
    | (go_at_call 9
       with_reducible refine (SA.out _ H0.out.env).mono ?_
       rintro e w1 ⟨rfl, hb1⟩
       have H1 := Lib.hid (H0.out.call hb1)
       have B1 := Lib.hid (B0.out.call hb1)
       obtain ⟨p0, p1, p2, p3, p4⟩ := perm_cells H1.out.blk
       obtain ⟨q0, q1, q2, q3, q4⟩ := perm_cells B1.out
       clear hb1)
    | (go_at_call 10
       with_reducible refine (SLp.out _).mono ?_
       rintro e w2 ⟨rfl, hb2⟩
       have H2 := Lib.hid (H1.out.call hb2)
       have B2 := Lib.hid (B1.out.call hb2)
       obtain ⟨p0, p1, p2, p3, p4⟩ := perm_cells H2.out.blk
       obtain ⟨q0, q1, q2, q3, q4⟩ := perm_cells B2.out
       clear hb2))
    go_ret
    exact ⟨rfl, H2.out.bel⟩
  rw [decide_eq_false hlp] at SLp
  by_cases hlq : 60 < qm.size ∨ 60 < qd.size
  · rw [decide_eq_true hlq] at SLq
    clear hlp hlq hE hT
    go_enter Tryd.func8, Tryd.ntmps8
    go_wp2_with (first
    | (go_at_call 9
       with_reducible refine (SA.out _ H0.out.env).mono ?_
       rintro e w1 ⟨rfl, hb1⟩
       have H1 := Lib.hid (H0.out.call hb1)
       have B1 := Lib.hid (B0.out.call hb1)
       obtain ⟨p0, p1, p2, p3, p4⟩ := perm_cells H1.out.blk
       obtain ⟨q0, q1, q2, q3, q4⟩ := perm_cells B1.out
       clear hb1)
    | (go_at_call 10
       with_reducible refine (SLp.out _).mono ?_
       rintro e w2 ⟨rfl, hb2⟩
       have H2 := Lib.hid (H1.out.call hb2)
       have B2 := Lib.hid (B1.out.call hb2)
       obtain ⟨p0, p1, p2, p3, p4⟩ := perm_cells H2.out.blk
       obtain ⟨q0, q1, q2, q3, q4⟩ := perm_cells B2.out
       clear hb2)
    | (go_at_call 10
       with_reducible refine (SLq.out _).mono ?_
       rintro e w3 ⟨rfl, hb3⟩
       have H3 := Lib.hid (H2.out.call hb3)
       have B3 := Lib.hid (B2.out.call hb3)
       obtain ⟨p0, p1, p2, p3, p4⟩ := perm_cells H3.out.blk
       obtain ⟨q0, q1, q2, q3, q4⟩ := perm_cells B3.out
       obtain ⟨f0, f1, f2, f3, f4⟩ := frozen5 B3.out
       have pl := B3.out.lt
       clear hb3))
    go_ret
    exact ⟨rfl, H3.out.bel⟩
  rw [decide_eq_false hlq] at SLq
  by_cases h40 : 40 < n
  · have t1 : decide ((40 : Int) < (n : Int)) = true := decide_eq_true (by omega)
    have t1' : decide (40 < n) = true := decide_eq_true h40
    clear hlp hlq hE hT h40
    go_enter Tryd.func8, Tryd.ntmps8
    go_wp2_with (first
    | (go_at_call 9
       with_reducible refine (SA.out _ H0.out.env).mono ?_
       rintro e w1 ⟨rfl, hb1⟩
       have H1 := Lib.hid (H0.out.call hb1)
       have B1 := Lib.hid (B0.out.call hb1)
       obtain ⟨p0, p1, p2, p3, p4⟩ := perm_cells H1.out.blk
       obtain ⟨q0, q1, q2, q3, q4⟩ := perm_cells B1.out
       clear hb1)
    | (go_at_call 10
       with_reducible refine (SLp.out _).mono ?_
       rintro e w2 ⟨rfl, hb2⟩
       have H2 := Lib.hid (H1.out.call hb2)
       have B2 := Lib.hid (B1.out.call hb2)
       obtain ⟨p0, p1, p2, p3, p4⟩ := perm_cells H2.out.blk
       obtain ⟨q0, q1, q2, q3, q4⟩ := perm_cells B2.out
       clear hb2)
    | (go_at_call 10
       with_reducible refine (SLq.out _).mono ?_
       rintro e w3 ⟨rfl, hb3⟩
       have H3 := Lib.hid (H2.out.call hb3)
       have B3 := Lib.hid (B2.out.call hb3)
       obtain ⟨p0, p1, p2, p3, p4⟩ := perm_cells H3.out.blk
       obtain ⟨q0, q1, q2, q3, q4⟩ := perm_cells B3.out
       obtain ⟨f0, f1, f2, f3, f4⟩ := frozen5 B3.out
       have pl := B3.out.lt
       clear hb3))
    go_ret
    exact ⟨rfl, H3.out.bel⟩
  have t1 : decide ((40 : Int) < (n : Int)) = false := decide_eq_false (by omega)
  have t1' : decide (40 < n) = false := decide_eq_false h40
  have sm1 := fun w => tmerge nm nd ev vol tot qm nd ev' vol' tot' hn1 hn2 hn3 hn2 w
  by_cases hv : validB nm nd ev vol tot = true ∧ validB qm nd ev' vol' tot' = true
  · obtain ⟨hp, hq⟩ := hv
    have hlp := (validB_true.1 hp)
    have hlq := (validB_true.1 hq)
    obtain ⟨hpn, hpd, hpl⟩ := hlp
    obtain ⟨_, _, hql⟩ := hlq
    unfold limR at hpl hql
    have sm2 := fun w => tmerge nm nd ev vol tot nm nd ev vol tot hn1 hn2 hn1 hn2 w
    have hm1 : mergeRes nm nd ev vol tot qm nd ev' vol' tot' = .tuple #[.agg #[.string nm, .string nd, .int .i64 (min ev ev'), .int .i64 (min vol vol'), .int .i64 (min tot tot')], .int .i64 0] := by unfold mergeRes; rw [if_pos ⟨hp, hq⟩, if_pos rfl]
    have hm2 : mergeRes nm nd ev vol tot nm nd ev vol tot = .tuple #[.agg #[.string nm, .string nd, .int .i64 ev, .int .i64 vol, .int .i64 tot], .int .i64 0] := by unfold mergeRes; rw [if_pos ⟨hp, hp⟩, if_pos rfl, Int.min_self, Int.min_self, Int.min_self]
    rw [hm1] at sm1
    rw [hm2] at sm2
    have l1 : min ev ev' ≤ ev ∧ min ev ev' ≤ ev' ∧ 0 ≤ min ev ev' := by omega
    have l2 : min vol vol' ≤ vol ∧ min vol vol' ≤ vol' ∧ 0 ≤ min vol vol' := by omega
    have l3 : min tot tot' ≤ tot ∧ min tot tot' ≤ tot' ∧ 0 ≤ min tot tot' := by omega
    generalize min ev ev' = evm at sm1 l1
    generalize min vol vol' = volm at sm1 l2
    generalize min tot tot' = totm at sm1 l3
    have hmv : validB nm nd evm volm totm = true := validB_true.2 ⟨hpn, hpd, by unfold limR; omega⟩
    have sv := fun w => tvalid nm nd evm volm totm hn1 hn2 w
    rw [hmv] at sv
    obtain ⟨er, her⟩ : ∃ z, z = yErr (validB nm nd evm volm totm = true) E n from_ sec := ⟨_, rfl⟩
    have SCm := Lib.hid fun w hE hT => tcheck nm nd evm volm totm hn1 hn2 A n c E from_ sec (by omega) w hE hT er her
    have SCp := Lib.hid fun w hE hT => tcheck nm nd ev vol tot hn1 hn2 A n c E from_ sec (by omega) w hE hT er (her.trans (yErr_ok hmv hp E n from_ sec))
    have SCq := Lib.hid fun w hE hT => tcheck qm nd ev' vol' tot' hn3 hn2 A n c E from_ sec (by omega) w hE hT er (her.trans (yErr_ok hmv hq E n from_ sec))
    obtain ⟨k, g, hfm⟩ := FirstIs.ex (validB nm nd evm volm totm = true) E n from_ sec evm volm totm
    obtain ⟨kp, ep, hfp⟩ := FirstIs.ex (validB nm nd ev vol tot = true) E n from_ sec ev vol tot
    obtain ⟨kq, eq, hfq⟩ := FirstIs.ex (validB qm nd ev' vol' tot' = true) E n from_ sec ev' vol' tot'
    have SFm := Lib.hid fun w hT => tfirst nm nd evm volm totm hn1 hn2 A n c E from_ sec (by omega) w hT k g hfm
    have SFp := Lib.hid fun w hT => tfirst nm nd ev vol tot hn1 hn2 A n c E from_ sec (by omega) w hT kp ep hfp
    have SFq := Lib.hid fun w hT => tfirst qm nd ev' vol' tot' hn3 hn2 A n c E from_ sec (by omega) w hT kq eq hfq
    have HKp : Hid (ep = 0 → g = 0 ∧ k ≤ kp) := by
      show _ → _
      intro h
      subst h
      exact first_less hfp hfm hmv hp l1.1 l2.1 l3.1 (by omega)
    have HKq : Hid (eq = 0 → g = 0 ∧ k ≤ kq) := by
      show _ → _
      intro h
      subst h
      exact first_less hfq hfm hmv hq l1.2.1 l2.2.1 l3.2.1 (by omega)
    have HLp : Hid (∀ x, x ∈ chkL (validB nm nd ev vol tot = true) E n from_ sec ev vol tot → hasN (chkL (validB nm nd evm volm totm = true) E n from_ sec evm volm totm) x.1 (fnm x.2) = true) := chk_less hp hmv l1.1 l2.1 l3.1
    have HLq : Hid (∀ x, x ∈ chkL (validB qm nd ev' vol' tot' = true) E n from_ sec ev' vol' tot' → hasN (chkL (validB nm nd evm volm totm = true) E n from_ sec evm volm totm) x.1 (fnm x.2) = true) := chk_less hq hmv l1.2.1 l2.2.1 l3.2.1
    have SM1 := Lib.hid sm1
    have SM2 := Lib.hid sm2
    have SV := Lib.hid sv
    clear hlp hlq hE hT h40 hp hq hpn hpd hpl hql hm1 hm2 sm1 sm2 sv hmv her hfm hfp hfq l1 l2 l3
    obtain ⟨La, hLa⟩ : ∃ z, z = chkL (validB nm nd evm volm totm = true) E n from_ sec evm volm totm := ⟨_, rfl⟩
    rw [← hLa] at HLp HLq
    have HLa := Lib.hid hLa
    clear hLa
    go_enter Tryd.func8, Tryd.ntmps8
    go_wp2_with (first
    | (go_at_call 9
       with_reducible refine (SA.out _ H0.out.env).mono ?_
       rintro e w1 ⟨rfl, hb1⟩
       have H1 := Lib.hid (H0.out.call hb1)
       have B1 := Lib.hid (B0.out.call hb1)
       obtain ⟨p0, p1, p2, p3, p4⟩ := perm_cells H1.out.blk
       obtain ⟨q0, q1, q2, q3, q4⟩ := perm_cells B1.out
       clear hb1)
    | (go_at_call 10
       with_reducible refine (SLp.out _).mono ?_
       rintro e w2 ⟨rfl, hb2⟩
       have H2 := Lib.hid (H1.out.call hb2)
       have B2 := Lib.hid (B1.out.call hb2)
       obtain ⟨p0, p1, p2, p3, p4⟩ := perm_cells H2.out.blk
       obtain ⟨q0, q1, q2, q3, q4⟩ := perm_cells B2.out
       clear hb2)
    | (go_at_call 10
       with_reducible refine (SLq.out _).mono ?_
       rintro e w3 ⟨rfl, hb3⟩
       have H3 := Lib.hid (H2.out.call hb3)
       have B3 := Lib.hid (B2.out.call hb3)
       obtain ⟨p0, p1, p2, p3, p4⟩ := perm_cells H3.out.blk
       obtain ⟨q0, q1, q2, q3, q4⟩ := perm_cells B3.out
       obtain ⟨f0, f1, f2, f3, f4⟩ := frozen5 B3.out
       have pl := B3.out.lt
       clear hb3)
    | (go_at_call 23
       with_reducible refine (SM1.out _).mono ?_
       rintro e w4 ⟨rfl, hb4⟩
       have H4 := Lib.hid ((set_ctx (qv := #[]) H3.out (Nat.le_refl _) (fun b hb => by omega) HT.out HE.out).call hb4)
       have B4 : Hid (Blk w4 (w.heap.size + 1) 23 #[.string qm, .string nd, .int .i64 ev', .int .i64 vol', .int .i64 tot']) := (B3.out.set_ 1 _).call hb4
       have H4a := Lib.hid (H4.out.alloc (Obj.cells #[.string nm, .string nd, .int .i64 evm, .int .i64 volm, .int .i64 totm] 23))
       have B4a := Lib.hid (B4.out.alloc (Obj.cells #[.string nm, .string nd, .int .i64 evm, .int .i64 volm, .int .i64 totm] 23))
       have M4a := Lib.hid (Blk.new w4 23 #[.string nm, .string nd, .int .i64 evm, .int .i64 volm, .int .i64 totm])
       obtain ⟨p0, p1, p2, p3, p4⟩ := perm_cells H4.out.blk
       have pl := H4.out.blk.lt
       clear hb4 f0 f1 f2 f3 f4)
    | (go_at_call 23
       with_reducible refine (SM2.out _).mono ?_
       rintro e w5 ⟨rfl, hb5⟩
       have H5 := Lib.hid (H4a.out.call hb5)
       have B5 := Lib.hid (B4a.out.call hb5)
       have M5 := Lib.hid (M4a.out.call hb5)
       obtain ⟨p0, p1, p2, p3, p4⟩ := perm_cells H5.out.blk
       obtain ⟨m0, m1, m2, m3, m4⟩ := perm_cells M5.out
       have pl := H5.out.blk.lt
       have ml := M5.out.lt
       have H5a := Lib.hid (H5.out.alloc (Obj.cells #[.string nm, .string nd, .int .i64 ev, .int .i64 vol, .int .i64 tot] 23))
       have B5a := Lib.hid (B5.out.alloc (Obj.cells #[.string nm, .string nd, .int .i64 ev, .int .i64 vol, .int .i64 tot] 23))
       have M5a := Lib.hid (M5.out.alloc (Obj.cells #[.string nm, .string nd, .int .i64 ev, .int .i64 vol, .int .i64 tot] 23))
       clear hb5)
    | (go_at_call 18
       with_reducible refine (SV.out _).mono ?_
       rintro e w6 ⟨rfl, hb6⟩
       have H6 := Lib.hid (H5a.out.call hb6)
       have B6 := Lib.hid (B5a.out.call hb6)
       have M6 := Lib.hid (M5a.out.call hb6)
       obtain ⟨m0, m1, m2, m3, m4⟩ := perm_cells M6.out
       have ml := M6.out.lt
       clear hb6)
    | (go_at_call 11
       with_reducible refine (SCm.out _ H6.out.env H6.out.ev).mono ?_
       rintro e w7 ⟨A7, N7, c7, rfl, hN7, hF7, hb7⟩
       rw [← HLa.out] at hN7 hF7
       have HN7 := Lib.hid hN7
       have H7 := Lib.hid (H6.out.call hb7)
       have B7 := Lib.hid (B6.out.call hb7)
       have M7 := Lib.hid (M6.out.call hb7)
       obtain ⟨m0, m1, m2, m3, m4⟩ := perm_cells M7.out
       have ml := M7.out.lt
       have H7a := Lib.hid (H7.out.alloc (Obj.cells #[.slice A7 N7 c7] 27))
       have B7a := Lib.hid (B7.out.alloc (Obj.cells #[.slice A7 N7 c7] 27))
       have C7a := Lib.hid (Blk.new w7 27 #[.slice A7 N7 c7])
       have F7a := Lib.hid (hF7.below (Nat.le_refl _) ((Below.refl _ w7).alloc (Nat.le_refl _) (Obj.cells #[.slice A7 N7 c7] 27)))
       clear hb7 hN7 hF7)
    | (go_at_call 15
       with_reducible refine (SFm.out _ H7a.out.ev).mono ?_
       rintro e w8 ⟨rfl, hb8⟩
       have H8 := Lib.hid (H7a.out.call hb8)
       have B8 := Lib.hid (B7a.out.call hb8)
       have C8 := Lib.hid (C7a.out.call hb8)
       have F8 := Lib.hid (F7a.out.below (Nat.le_refl _) hb8)
       obtain ⟨p0, p1, p2, p3, p4⟩ := perm_cells H8.out.blk
       obtain ⟨q0, q1, q2, q3, q4⟩ := perm_cells B8.out
       have pl := H8.out.blk.lt
       have ql := B8.out.lt
       clear hb8))
    have hal : Below w8.heap.size w8 (w8.alloc (Obj.cells #[.string nm, .string nd, .int .i64 ev, .int .i64 vol, .int .i64 tot, .string qm, .string nd, .int .i64 ev', .int .i64 vol', .int .i64 tot'] 23)) := (Below.refl _ w8).alloc (Nat.le_refl _) _
    have HR0 : Hid (RC w (w8.alloc (Obj.cells #[.string nm, .string nd, .int .i64 ev, .int .i64 vol, .int .i64 tot, .string qm, .string nd, .int .i64 ev', .int .i64 vol', .int .i64 tot'] 23)) w8.heap.size #[.string nm, .string nd, .int .i64 ev, .int .i64 vol, .int .i64 tot, .string qm, .string nd, .int .i64 ev', .int .i64 vol', .int .i64 tot'] w7.heap.size #[.slice A7 N7 c7] A7 La A n E) :=
      ⟨Blk.new _ _ _, C8.out.call hal, F8.out.below (Nat.le_refl _) hal, H8.out.ev.below (Nat.le_refl _) hal, H8.out.env.below hal, below_step H8.out.bel hal⟩
    clear hal
    go_loopw [94] (fun v wr => ∃ j : Nat, (j = 0 ∨ j = 1 ∨ j = 2) ∧ v = .int .i64 j ∧ Hid (RC w wr w8.heap.size #[.string nm, .string nd, .int .i64 ev, .int .i64 vol, .int .i64 tot, .string qm, .string nd, .int .i64 ev', .int .i64 vol', .int .i64 tot'] w7.heap.size #[.slice A7 N7 c7] A7 La A n E)) (fun v _ => 2 - (RowKit.intOf v).toNat)
    case atStart => exact ⟨0, .inl rfl, rfl, HR0⟩
    case round =>
      obtain ⟨j, hj, rfl, HR⟩ := hrel
      have a0 := HR.out.1.cell 0
      have a1 := HR.out.1.cell 1
      have a2 := HR.out.1.cell 2
      have a3 := HR.out.1.cell 3
      have a4 := HR.out.1.cell 4
      have a5 := HR.out.1.cell 5
      have a6 := HR.out.1.cell 6
      have a7 := HR.out.1.cell 7
      have a8 := HR.out.1.cell 8
      have a9 := HR.out.1.cell 9
      simp only [List.getElem?_toArray, List.getElem?_cons_succ, List.getElem?_cons_zero] at a0 a1 a2 a3 a4 a5 a6 a7 a8 a9
      rcases hj with rfl | rfl | rfl
      · by_cases hz : ep = 0
        · obtain ⟨hg, hk⟩ := HKp.out hz
          have n1 : (ep == 0) = true := by simp [hz]
          subst hg
          have n3 : decide (kp < k) = false := decide_eq_false (by omega)
          clear hk hz
          have RX := Lib.hid (HR.out.alloc (Obj.cells #[.string nm, .string nd, .int .i64 ev, .int .i64 vol, .int .i64 tot] 23))
          have BX := Lib.hid (Blk.new wr 23 #[.string nm, .string nd, .int .i64 ev, .int .i64 vol, .int .i64 tot])
          go_wp2_with (first
            | (go_at_call 11
               with_reducible refine (SCp.out _ RX.out.env RX.out.ev).mono ?_
               rintro e w9 ⟨A9, N9, c9, rfl, hN9, hF9, hb9⟩
               have R9 := Lib.hid (RX.out.call hb9)
               have X9 := Lib.hid (BX.out.call hb9)
               have cc := R9.out.2.1.cell 0
               simp only [List.getElem?_toArray, List.getElem?_cons_zero] at cc
               have HCF := Lib.hid (fall0 28 #[.pointer (some ⟨w7.heap.size, 0, none⟩)] (enters_of Tryd.func28 (by kernel_rfl) rfl) La A9 N9 c9 _ w9 hN9 hF9 HLp.out (fun W k s hW => closM w7.heap.size A7 N7 c7 La HN7.out w9 R9.out.2.2.1 cc R9.out.2.1.lt W k s hW))
               obtain ⟨z0, z1, z2, z3, z4⟩ := perm_cells X9.out
               clear hb9 hN9 hF9 cc)
            | (go_at_call 25
               with_reducible refine HCF.out.mono ?_
               rintro e w10 ⟨rfl, hb10⟩
               have R10 := Lib.hid (R9.out.call hb10)
               obtain ⟨z0, z1, z2, z3, z4⟩ := perm_cells (X9.out.call hb10)
               clear hb10)
            | (go_at_call 15
               with_reducible refine (SFp.out _ R10.out.ev).mono ?_
               rintro e w11 ⟨rfl, hb11⟩
               have R11 := Lib.hid (R10.out.call hb11)
               clear hb11))
          go_roundw
          case rel => exact ⟨1, .inr (.inl rfl), rfl, R11⟩
          case measure => simp [RowKit.intOf]
        · have n1 : (ep == 0) = false := by simp [hz]
          clear hz
          have RX := Lib.hid (HR.out.alloc (Obj.cells #[.string nm, .string nd, .int .i64 ev, .int .i64 vol, .int .i64 tot] 23))
          have BX := Lib.hid (Blk.new wr 23 #[.string nm, .string nd, .int .i64 ev, .int .i64 vol, .int .i64 tot])
          go_wp2_with (first
            | (go_at_call 11
               with_reducible refine (SCp.out _ RX.out.env RX.out.ev).mono ?_
               rintro e w9 ⟨A9, N9, c9, rfl, hN9, hF9, hb9⟩
               have R9 := Lib.hid (RX.out.call hb9)
               have X9 := Lib.hid (BX.out.call hb9)
               have cc := R9.out.2.1.cell 0
               simp only [List.getElem?_toArray, List.getElem?_cons_zero] at cc
               have HCF := Lib.hid (fall0 28 #[.pointer (some ⟨w7.heap.size, 0, none⟩)] (enters_of Tryd.func28 (by kernel_rfl) rfl) La A9 N9 c9 _ w9 hN9 hF9 HLp.out (fun W k s hW => closM w7.heap.size A7 N7 c7 La HN7.out w9 R9.out.2.2.1 cc R9.out.2.1.lt W k s hW))
               obtain ⟨z0, z1, z2, z3, z4⟩ := perm_cells X9.out
               clear hb9 hN9 hF9 cc)
            | (go_at_call 25
               with_reducible refine HCF.out.mono ?_
               rintro e w10 ⟨rfl, hb10⟩
               have R10 := Lib.hid (R9.out.call hb10)
               obtain ⟨z0, z1, z2, z3, z4⟩ := perm_cells (X9.out.call hb10)
               clear hb10)
            | (go_at_call 15
               with_reducible refine (SFp.out _ R10.out.ev).mono ?_
               rintro e w11 ⟨rfl, hb11⟩
               have R11 := Lib.hid (R10.out.call hb11)
               clear hb11))
          go_roundw
          case rel => exact ⟨1, .inr (.inl rfl), rfl, R11⟩
          case measure => simp [RowKit.intOf]
      · by_cases hz : eq = 0
        · obtain ⟨hg, hk⟩ := HKq.out hz
          have n1 : (eq == 0) = true := by simp [hz]
          subst hg
          have n3 : decide (kq < k) = false := decide_eq_false (by omega)
          clear hk hz
          have RX := Lib.hid (HR.out.alloc (Obj.cells #[.string qm, .string nd, .int .i64 ev', .int .i64 vol', .int .i64 tot'] 23))
          have BX := Lib.hid (Blk.new wr 23 #[.string qm, .string nd, .int .i64 ev', .int .i64 vol', .int .i64 tot'])
          go_wp2_with (first
            | (go_at_call 11
               with_reducible refine (SCq.out _ RX.out.env RX.out.ev).mono ?_
               rintro e w9 ⟨A9, N9, c9, rfl, hN9, hF9, hb9⟩
               have R9 := Lib.hid (RX.out.call hb9)
               have X9 := Lib.hid (BX.out.call hb9)
               have cc := R9.out.2.1.cell 0
               simp only [List.getElem?_toArray, List.getElem?_cons_zero] at cc
               have HCF := Lib.hid (fall0 28 #[.pointer (some ⟨w7.heap.size, 0, none⟩)] (enters_of Tryd.func28 (by kernel_rfl) rfl) La A9 N9 c9 _ w9 hN9 hF9 HLq.out (fun W k s hW => closM w7.heap.size A7 N7 c7 La HN7.out w9 R9.out.2.2.1 cc R9.out.2.1.lt W k s hW))
               obtain ⟨z0, z1, z2, z3, z4⟩ := perm_cells X9.out
               clear hb9 hN9 hF9 cc)
            | (go_at_call 25
               with_reducible refine HCF.out.mono ?_
               rintro e w10 ⟨rfl, hb10⟩
               have R10 := Lib.hid (R9.out.call hb10)
               obtain ⟨z0, z1, z2, z3, z4⟩ := perm_cells (X9.out.call hb10)
               clear hb10)
            | (go_at_call 15
               with_reducible refine (SFq.out _ R10.out.ev).mono ?_
               rintro e w11 ⟨rfl, hb11⟩
               have R11 := Lib.hid (R10.out.call hb11)
               clear hb11))
          go_roundw
          case rel => exact ⟨2, .inr (.inr rfl), rfl, R11⟩
          case measure => simp [RowKit.intOf]
        · have n1 : (eq == 0) = false := by simp [hz]
          clear hz
          have RX := Lib.hid (HR.out.alloc (Obj.cells #[.string qm, .string nd, .int .i64 ev', .int .i64 vol', .int .i64 tot'] 23))
          have BX := Lib.hid (Blk.new wr 23 #[.string qm, .string nd, .int .i64 ev', .int .i64 vol', .int .i64 tot'])
          go_wp2_with (first
            | (go_at_call 11
               with_reducible refine (SCq.out _ RX.out.env RX.out.ev).mono ?_
               rintro e w9 ⟨A9, N9, c9, rfl, hN9, hF9, hb9⟩
               have R9 := Lib.hid (RX.out.call hb9)
               have X9 := Lib.hid (BX.out.call hb9)
               have cc := R9.out.2.1.cell 0
               simp only [List.getElem?_toArray, List.getElem?_cons_zero] at cc
               have HCF := Lib.hid (fall0 28 #[.pointer (some ⟨w7.heap.size, 0, none⟩)] (enters_of Tryd.func28 (by kernel_rfl) rfl) La A9 N9 c9 _ w9 hN9 hF9 HLq.out (fun W k s hW => closM w7.heap.size A7 N7 c7 La HN7.out w9 R9.out.2.2.1 cc R9.out.2.1.lt W k s hW))
               obtain ⟨z0, z1, z2, z3, z4⟩ := perm_cells X9.out
               clear hb9 hN9 hF9 cc)
            | (go_at_call 25
               with_reducible refine HCF.out.mono ?_
               rintro e w10 ⟨rfl, hb10⟩
               have R10 := Lib.hid (R9.out.call hb10)
               obtain ⟨z0, z1, z2, z3, z4⟩ := perm_cells (X9.out.call hb10)
               clear hb10)
            | (go_at_call 15
               with_reducible refine (SFq.out _ R10.out.ev).mono ?_
               rintro e w11 ⟨rfl, hb11⟩
               have R11 := Lib.hid (R10.out.call hb11)
               clear hb11))
          go_roundw
          case rel => exact ⟨2, .inr (.inr rfl), rfl, R11⟩
          case measure => simp [RowKit.intOf]
      · go_wp2_with fail
        go_ret
        exact ⟨rfl, HR.out.bel⟩
  · have hm : mergeRes nm nd ev vol tot qm nd ev' vol' tot' = .tuple #[.agg #[.string ⟨#[]⟩, .string ⟨#[]⟩, .int .i64 0, .int .i64 0, .int .i64 0], .int .i64 1] := by unfold mergeRes; rw [if_neg hv]; rfl
    rw [hm] at sm1
    have SM1 := Lib.hid sm1
    clear hlp hlq hE hT h40 hv hm sm1
    go_enter Tryd.func8, Tryd.ntmps8
    go_wp2_with (first
    | (go_at_call 9
       with_reducible refine (SA.out _ H0.out.env).mono ?_
       rintro e w1 ⟨rfl, hb1⟩
       have H1 := Lib.hid (H0.out.call hb1)
       have B1 := Lib.hid (B0.out.call hb1)
       obtain ⟨p0, p1, p2, p3, p4⟩ := perm_cells H1.out.blk
       obtain ⟨q0, q1, q2, q3, q4⟩ := perm_cells B1.out
       clear hb1)
    | (go_at_call 10
       with_reducible refine (SLp.out _).mono ?_
       rintro e w2 ⟨rfl, hb2⟩
       have H2 := Lib.hid (H1.out.call hb2)
       have B2 := Lib.hid (B1.out.call hb2)
       obtain ⟨p0, p1, p2, p3, p4⟩ := perm_cells H2.out.blk
       obtain ⟨q0, q1, q2, q3, q4⟩ := perm_cells B2.out
       clear hb2)
    | (go_at_call 10
       with_reducible refine (SLq.out _).mono ?_
       rintro e w3 ⟨rfl, hb3⟩
       have H3 := Lib.hid (H2.out.call hb3)
       have B3 := Lib.hid (B2.out.call hb3)
       obtain ⟨p0, p1, p2, p3, p4⟩ := perm_cells H3.out.blk
       obtain ⟨q0, q1, q2, q3, q4⟩ := perm_cells B3.out
       obtain ⟨f0, f1, f2, f3, f4⟩ := frozen5 B3.out
       have pl := B3.out.lt
       clear hb3)
    | (go_at_call 23
       with_reducible refine (SM1.out _).mono ?_
       rintro e w4 ⟨rfl, hb4⟩
       have H4 := Lib.hid (below_step ((set_ctx (qv := #[]) H3.out (Nat.le_refl _) (fun b hb => by omega) HT.out HE.out).bel) hb4)
       clear hb4))
    go_ret
    exact ⟨rfl, by have := H4.out; (repeat' (first | assumption | exact Below.refl _ _ | exact Below.size (by assumption) | (refine Below.setCell ?_ ?_ _) | (refine Below.alloc ?_ ?_ _) | (refine Below.drew ?_) | (refine below_drewN ?_ _) | (refine Below.trans ?_ (Below.mono ‹Below _ _ _› ?_)) | omega | (simp; done) | (simp; omega) | (simp at *; omega)))⟩
end Go.Proofs.YtgbnbafigjijmaaDoor

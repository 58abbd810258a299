/- The package's years of events. -/
import Derived.Test.YtigocjhmgmhocaaGreatDoorAcc
namespace Go.Proofs.YtigocjhmgmhocaaGreatDoor
open Go.RowKit
set_option linter.unusedVariables false
set_option linter.unusedSimpArgs false

theorem infoI : (Tryz.prog.info? 3).map (fun i => (i.zero, i.size, i.bytes)) = some (some (.int .i64 0), 1, 8) := by kernel_rfl
theorem h63_i {n : Nat} (h : n ≤ 300) : n + 1 ≤ maxLen := by simp only [maxLen]; omega
theorem hby_i {n : Nat} (h : n ≤ 300) : (n + 1) * 8 ≤ 140737488355328 := by omega
/-- n numbers from an address on. -/
def IntAt (w : World) (b off n : Nat) (X : Nat → Int) : Prop := b < w.heap.size ∧ ∀ k, k < n → w.cell? ⟨b, off + k, none⟩ = some (.int .i64 (X k))
theorem IntAt.below {w w' : World} {B b off n : Nat} {X : Nat → Int} (h : IntAt w b off n X) (hb : Below B w w') (hB : b < B) : IntAt w' b off n X :=
  ⟨Nat.lt_of_lt_of_le h.1 (Nat.le_trans (Nat.le_refl _) hb.size), fun k hk => (hb.cell (p := ⟨b, off + k, none⟩) hB).trans (h.2 k hk)⟩
def IntIn (w : World) (A : Option Addr) (n : Nat) (X : Nat → Int) : Prop := n ≤ 9223372036854775807 ∧ (n = 0 ∨ ∃ b off, A = some ⟨b, off, none⟩ ∧ IntAt w b off n X)
theorem IntIn.below {w w' : World} {B n : Nat} {A : Option Addr} {X : Nat → Int} (h : IntIn w A n X) (hB : w.heap.size ≤ B) (hb : Below B w w') : IntIn w' A n X := by
  refine ⟨h.1, ?_⟩
  rcases h.2 with h0 | ⟨b, off, hA, ht⟩
  · exact .inl h0
  · exact .inr ⟨b, off, hA, ht.below hb (Nat.lt_of_lt_of_le ht.1 hB)⟩
theorem IntIn.at {w : World} {A : Option Addr} {n k : Nat} {X : Nat → Int} (h : IntIn w A n X) (hk : k < n) : ∃ b off, A = some ⟨b, off, none⟩ ∧ b < w.heap.size ∧ w.cell? ⟨b, off + k, none⟩ = some (.int .i64 (X k)) := by
  rcases h.2 with h0 | ⟨b, off, hA, ht⟩
  · omega
  · exact ⟨b, off, hA, ht.1, ht.2 k hk⟩
/-- The numbers as values. -/
def ic (X : Nat → Int) (n : Nat) : List Value := (List.range n).map fun k => Value.int .i64 (X k)
theorem ic_succ (X : Nat → Int) (n : Nat) : ic X (n + 1) = ic X n ++ [.int .i64 (X n)] := by unfold ic; rw [List.range_succ, List.map_append]; rfl
theorem ic_at {X : Nat → Int} {n k : Nat} (h : k < n) : (ic X n)[k]? = some (.int .i64 (X k)) := by unfold ic; simp [h]
/-- A row of numbers that is owned. -/
def IMem (w wr : World) (u : Value) (N : Nat) (X : Nat → Int) : Prop := wr.ownsRow w.heap.size 3 1 u N (ic X N) ∧ Below w.heap.size w wr
theorem IMem.call {w wr w' : World} {u : Value} {N : Nat} {X : Nat → Int} (h : IMem w wr u N X) (hb : Below wr.heap.size wr w') : IMem w w' u N X := ⟨own_below h.1 hb, below_step h.2 hb⟩
theorem IMem.app {w wr w' : World} {u v : Value} {N : Nat} {X : Nat → Int} {x : Int} (h : IMem w wr u N X) (hx : x = X N) {cs : Array Value} {t : TypeId} (hown : w'.ownsRow w.heap.size 3 1 v (N + 1) (ic X N ++ [.int .i64 x])) (hg : (wr.alloc (.cells cs t)).grownBy w' u.ownBlock) : IMem w w' v (N + 1) X :=
  ⟨by rw [ic_succ, ← hx]; exact hown, below_own (h.1.alloc _) (h.2.alloc h.2.size _) hg⟩
theorem IMem.form {w wr : World} {u : Value} {N : Nat} {X : Nat → Int} (h : IMem w wr u N X) : ∃ A cap, u = .slice A N cap := by
  rcases h.1.2 with ⟨hv, h0⟩ | ⟨g, cap, cur, hv, _⟩
  · exact ⟨none, 0, by rw [hv, h0]⟩
  · exact ⟨_, cap, hv⟩
theorem IMem.int {w wr : World} {A : Option Addr} {N cap : Nat} {X : Nat → Int} (h : IMem w wr (.slice A N cap) N X) (h300 : N ≤ 300) : IntIn wr A N X := by
  refine ⟨by omega, ?_⟩
  rcases h.1.2 with ⟨hv, h0⟩ | ⟨g, cap', cur, hv, _, _, hnc, _⟩
  · exact .inl h0
  · right
    injection hv with hA _ _
    subst hA
    refine ⟨g, 0, rfl, (h.1.lt g rfl).2, fun k hk => ?_⟩
    rw [Nat.zero_add, h.1.cellAt k (by omega), ic_at (by omega)]

/-- What years answers. -/
def YrsPost (w : World) (ok : Prop) (E : Evs) (n : Nat) (from_ sec : Int) (e : Ending) (w' : World) : Prop := ∃ (A : Option Addr) (N cap : Nat) (er : Int), e = .returned (.tuple #[.slice A N cap, .int .i64 er]) ∧ er = yErr ok E n from_ sec ∧ (er = 0 → N = n ∧ IntIn w' A n (yrs E from_ sec)) ∧ Below w.heap.size w w'
theorem yrs_nil {w w' : World} {ok : Prop} {E : Evs} {n : Nat} {from_ sec er : Int} (h : yErr ok E n from_ sec = er) (h0 : er ≠ 0) (hb : Below w.heap.size w w') : YrsPost w ok E n from_ sec (.returned (.tuple #[.slice none 0 0, .int .i64 er])) w' :=
  ⟨none, 0, 0, er, rfl, h.symm, fun h => absurd h h0, hb⟩
theorem perm_blk (w : World) (nm nd : ByteArray) (ev vol tot : Int) : Blk (w.alloc (Obj.cells #[.string nm, .string nd, .int .i64 ev, .int .i64 vol, .int .i64 tot] 26)) w.heap.size 26 #[.string nm, .string nd, .int .i64 ev, .int .i64 vol, .int .i64 tot] := Blk.new _ _ _
theorem perm_cells {w : World} {g : Nat} {t : TypeId} {a b c d e : Value} (h : Blk w g t #[a, b, c, d, e]) : w.cell? ⟨g, 0, none⟩ = some a ∧ w.cell? ⟨g, 1, none⟩ = some b ∧ w.cell? ⟨g, 2, none⟩ = some c ∧ w.cell? ⟨g, 3, none⟩ = some d ∧ w.cell? ⟨g, 4, none⟩ = some e := ⟨h.cell 0, h.cell 1, h.cell 2, h.cell 3, h.cell 4⟩
set_option maxRecDepth 100000 in
set_option maxHeartbeats 4000000 in
theorem tyears (nm nd : ByteArray) (ev vol tot : Int) (hn1 : nm.size ≤ maxLen) (hn2 : nd.size ≤ maxLen) (A : Option Addr) (n c : Nat) (E : Evs) (from_ sec : Int) (h40 : n ≤ 40) (w : World) (hT : EvIn w A n E) :
    Calls Tryz.prog 34 #[.agg #[.string nm, .string nd, .int .i64 ev, .int .i64 vol, .int .i64 tot], .slice A n c, .int .i64 from_, .int .i64 sec] w (YrsPost w (validB nm nd ev vol tot = true) E n from_ sec) := by
  have HT := Lib.hid hT
  have H40 := Lib.hid h40
  have SV := Lib.hid fun w => tvalid nm nd ev vol tot hn1 hn2 w
  obtain ⟨rb, hrb⟩ : ∃ rb : Bool, rb = true ↔ rightP E n := by
    by_cases h : rightP E n
    · exact ⟨true, by simp [h]⟩
    · exact ⟨false, by simp [h]⟩
  have SC := Lib.hid fun w hT => tcount A n c E h40 w hT rb hrb
  have HP0 := Lib.hid (perm_blk w nm nd ev vol tot)
  have HW0 : Hid (Below w.heap.size w (w.alloc (Obj.cells #[.string nm, .string nd, .int .i64 ev, .int .i64 vol, .int .i64 tot] 26))) := by show Below _ _ _; (repeat' (first | assumption | exact Below.refl _ _ | exact Below.size (by assumption) | (refine Below.setCell ?_ ?_ _) | (refine Below.alloc ?_ ?_ _) | (refine Below.drew ?_) | (refine below_drewN ?_ _) | (refine Below.trans ?_ (Below.mono ‹Below _ _ _› ?_)) | omega | (simp; done) | (simp; omega) | (simp at *; omega)))
  have HTA : Hid (EvIn (w.alloc (Obj.cells #[.string nm, .string nd, .int .i64 ev, .int .i64 vol, .int .i64 tot] 26)) A n E) := HT.out.below (Nat.le_refl _) HW0.out
  cases rb with
  | false =>
    have HE : Hid (yErr (validB nm nd ev vol tot = true) E n from_ sec = 1) := yErr_bad (fun h => absurd (hrb.2 h.2) (by simp))
    clear hrb hT h40 hn1 hn2
    go_enter Tryz.func34, Tryz.ntmps34
    go_wp2_with (first
      | (go_at_call 53
         with_reducible refine (SC.out _ ?_).mono ?_
         focus (exact HTA.out)
         rintro e w1 ⟨⟨a1, a2, a3, er, rfl, her⟩, hb1⟩
         have her' : (er == 1) = true := by have h := of_decide_eq_true (p := er = 1) her; simp [h]
         have HW1 := Lib.hid (below_step HW0.out hb1)
         clear hb1 her))
    go_ret2
    exact yrs_nil HE.out (by decide) HW1.out
  | true =>
    have HRP : Hid (rightP E n) := hrb.1 rfl
    obtain ⟨V, hV⟩ : ∃ V, V = validB nm nd ev vol tot := ⟨_, rfl⟩
    rw [← hV] at SV ⊢
    cases V with
    | false =>
      have HE : Hid (yErr (false = true) E n from_ sec = 1) := yErr_bad (fun h => absurd h.1 (by simp))
      clear hrb hT h40 hn1 hn2 hV
      go_enter Tryz.func34, Tryz.ntmps34
      go_wp2_with (first
        | (go_at_call 53
           with_reducible refine (SC.out _ ?_).mono ?_
           focus (exact HTA.out)
           rintro e w1 ⟨⟨a1, a2, a3, er, rfl, her⟩, hb1⟩
           have her' : (er == 1) = false := by have h := of_decide_eq_false (p := er = 1) her; simp [h]
           have HW1 := Lib.hid (below_step HW0.out hb1)
           obtain ⟨p0, p1, p2, p3, p4⟩ := perm_cells (HP0.out.call hb1)
           clear hb1 her)
        | (go_at_call 16
           with_reducible refine (SV.out _).mono ?_
           rintro e w2 ⟨rfl, hb2⟩
           have HW2 := Lib.hid (below_step HW1.out hb2)
           clear hb2))
      go_ret2
      exact yrs_nil HE.out (by decide) HW2.out
    | true =>
      have HOK : Hid (true = true ∧ rightP E n) := ⟨rfl, HRP.out⟩
      by_cases hst : stepP from_ sec
      · have hst' := hst
        unfold stepP InstP at hst'
        have t1 : decide (from_ < (-68719476736 : Int)) = false := decide_eq_false (by omega)
        have t2 : decide ((68719476736 : Int) < from_) = false := decide_eq_false (by omega)
        have t3 : decide (sec < (1 : Int)) = false := decide_eq_false (by omega)
        have t4 : decide ((86400 : Int) < sec) = false := decide_eq_false (by omega)
        have HST := Lib.hid hst
        obtain ⟨SI0, si0, sz0, sz1, sz2⟩ := info_parts1 infoI
        have SI1 := Lib.hid si0
        have SI2 := Lib.hid sz0
        have SI3 := Lib.hid sz1
        have SI4 := Lib.hid sz2
        clear hrb hT h40 hn1 hn2 hV hst hst' si0 sz0 sz1 sz2
        go_enter Tryz.func34, Tryz.ntmps34
        go_wp2_with (first
          | (go_at_call 53
             with_reducible refine (SC.out _ ?_).mono ?_
             focus (exact HTA.out)
             rintro e w1 ⟨⟨a1, a2, a3, er, rfl, her⟩, hb1⟩
             have her' : (er == 1) = false := by have h := of_decide_eq_false (p := er = 1) her; simp [h]
             have HW1 := Lib.hid (below_step HW0.out hb1)
             obtain ⟨p0, p1, p2, p3, p4⟩ := perm_cells (HP0.out.call hb1)
             clear hb1 her)
          | (go_at_call 16
             with_reducible refine (SV.out _).mono ?_
             rintro e w2 ⟨rfl, hb2⟩
             have HW2 := Lib.hid (below_step HW1.out hb2)
             clear hb2))
        have HT2 := Lib.hid (HT.out.below (Nat.le_refl _) HW2.out)
        go_loopw [14, 49] (fun u v wr => ∃ i : Nat, Hid (i ≤ n) ∧ Hid (∀ j, j < i → ers E from_ sec j = 0) ∧ v = .int .i64 i ∧ Hid (IMem w2 wr u i (yrs E from_ sec))) (fun _ v _ => n - (intOf v).toNat)
        case atStart => exact ⟨0, Nat.zero_le _, fun j hj => absurd hj (Nat.not_lt_zero _), rfl, World.ownsRow_nil _ _ _ _, Below.refl _ _⟩
        case round =>
          obtain ⟨i, Hi, HG, rfl, HQ⟩ := hrel
          obtain ⟨A8, cap8, h8⟩ := HQ.out.form
          subst h8
          have HN300 : Hid (i ≤ 300) := by show i ≤ 300; have h1 := Hi.out; have h4 := H40.out; omega
          by_cases hlt : i < n
          · have T0 : decide ((i : Int) < (n : Int)) = true := by simp <;> omega
            obtain ⟨i', hi'⟩ : ∃ z, z = i + 1 := ⟨_, rfl⟩
            have x0 : IntKind.i64.wrap ((i : Int) + 1) = (i' : Int) := by have := H40.out; rw [IntKind.wrap_i64]; omega
            have HI' : Hid (i' ≤ n) := by show i' ≤ n; omega
            have HMS : Hid (n - (intOf (Value.int .i64 (i' : Int))).toNat < n - (intOf (Value.int .i64 (i : Int))).toNat) := by show _ < _; simp [intOf]; omega
            have k0 : (0 : Int) ≤ (i : Int) := by omega
            have k1 : (i : Int) < (n : Int) := by omega
            obtain ⟨b, off, rfl, hb, c0, c1, c2, c3⟩ := (HT2.out.below (Nat.le_refl _) HQ.out.2).at hlt
            have hbd := HRP.out.bounds hlt
            obtain ⟨f, hf⟩ : ∃ z, z = E.F i := ⟨_, rfl⟩
            obtain ⟨t, ht⟩ : ∃ z, z = from_ + sec * f := ⟨_, rfl⟩
            have SB := fun t' tt pk w => tbegin f t' tt pk from_ sec HST.out (by rw [hf]; exact hbd.1) (by rw [hf]; omega) w
            rw [← ht] at SB
            have SB := Lib.hid SB
            have SY := Lib.hid fun w => tyear t (yearOf t) (errOf t) (time_is t) w
            obtain ⟨y, hy⟩ : ∃ z, z = yearOf t := ⟨_, rfl⟩
            obtain ⟨er, her⟩ : ∃ z, z = errOf t := ⟨_, rfl⟩
            rw [← hy, ← her] at SY
            rw [← hf] at c0
            have hyr : y = yrs E from_ sec i := by rw [hy, ht, hf]; rfl
            have her2 : ers E from_ sec i = er := by rw [her, ht, hf]; rfl
            by_cases hz : er = 0
            · have t9 : (er == 0) = true := by simp [hz]
              have HG' : Hid (∀ j, j < i' → ers E from_ sec j = 0) := by
                show ∀ j, j < i' → _
                intro j hj
                rcases Nat.lt_or_ge j i with g | g
                · exact HG.out j g
                · obtain rfl : j = i := by omega
                  rw [her2]; exact hz
              have HYR := Lib.hid hyr
              have HI1 := Lib.hid hi'
              clear hi' hlt hf ht hbd hy her hyr her2 hz
              go_wp2_with (first
                | (go_at_call 55
                   with_reducible refine (SB.out _ _ _ _).mono ?_
                   rintro e w4 ⟨rfl, hb4⟩
                   have HQ4 := Lib.hid (HQ.out.call (w' := w4) (by have := Below.refl wr.heap.size wr; (repeat' (first | assumption | exact Below.refl _ _ | exact Below.size (by assumption) | (refine Below.setCell ?_ ?_ _) | (refine Below.alloc ?_ ?_ _) | (refine Below.drew ?_) | (refine below_drewN ?_ _) | (refine Below.trans ?_ (Below.mono ‹Below _ _ _› ?_)) | omega | (simp; done) | (simp; omega) | (simp at *; omega)))))
                   clear hb4)
                | (go_at_call 54
                   with_reducible refine (SY.out _).mono ?_
                   rintro e w5 ⟨rfl, hb5⟩
                   have HQ5 := Lib.hid (HQ4.out.call hb5)
                   clear hb5)
                | (at_builtin; refine wpList_append_own_at _ ?paa (.tmp 64) (.tmp 66) 58 ?pab (w2.heap.size) 3 SI0 (.int .i64 0) 1 8 Tryz.underlying58 SI1.out SI2.out SI3.out SI4.out ?pac ?pad (.slice A8 i cap8) (i) (ic (yrs E from_ sec) i) ?pae (HQ5.out.1.alloc _) (⟨w5.heap.size, 0, none⟩) (1) (1) ([.int .i64 y]) ?pag (rfl) (World.news_of_block (cs := #[.int .i64 y]) (t := 3) (fr := (0, 0)) (heap_alloc_new _ _)) ((by simp [Value.oneCell'])) (h63_i HN300.out) (hby_i HN300.out) (Nat.le_trans HQ5.out.2.size (by simp)) ?pah
                   case paa => exact rfl
                   case pab => exact rfl
                   case pac => exact rfl
                   case pad => decide
                   case pae => exact rfl
                   case pag => exact rfl
                   intro v2 w7 hown2 hgrow2 hnil2 hat2
                   have HM7 := HQ5.out.app HYR.out hown2 hgrow2
                   rw [← HI1.out] at HM7
                   have HM8 := Lib.hid HM7
                   clear hown2 hgrow2 hnil2 hat2 HM7))
              go_roundw
              case rel => exact ⟨i', HI', HG', rfl, HM8⟩
              case measure => exact HMS.out
            · have t9 : (er == 0) = false := by simp [hz]
              have HE : Hid (yErr (true = true) E n from_ sec = er) := by
                show yErr (true = true) E n from_ sec = er
                exact (yErr_fe ⟨rfl, HRP.out⟩ HST.out).trans ((fe_at HG.out (by rw [her2]; exact hz) hlt).trans her2)
              have HZ := Lib.hid hz
              clear hlt hf ht hbd hy her hyr her2 hz hi'
              go_wp2_with (first
                | (go_at_call 55
                   with_reducible refine (SB.out _ _ _ _).mono ?_
                   rintro e w4 ⟨rfl, hb4⟩
                   have HQ4 := Lib.hid (HQ.out.call (w' := w4) (by have := Below.refl wr.heap.size wr; (repeat' (first | assumption | exact Below.refl _ _ | exact Below.size (by assumption) | (refine Below.setCell ?_ ?_ _) | (refine Below.alloc ?_ ?_ _) | (refine Below.drew ?_) | (refine below_drewN ?_ _) | (refine Below.trans ?_ (Below.mono ‹Below _ _ _› ?_)) | omega | (simp; done) | (simp; omega) | (simp at *; omega)))))
                   clear hb4)
                | (go_at_call 54
                   with_reducible refine (SY.out _).mono ?_
                   rintro e w5 ⟨rfl, hb5⟩
                   have HQ5 := Lib.hid (HQ4.out.call hb5)
                   clear hb5))
              go_ret2
              exact yrs_nil HE.out HZ.out (below_step HW2.out HQ5.out.2)
          · have hin : i = n := by have := Hi.out; omega
            have T0 : decide ((i : Int) < (n : Int)) = false := by simp <;> omega
            have T0' : decide (i < n) = false := decide_eq_false hlt
            subst hin
            have HE : Hid (yErr (true = true) E i from_ sec = 0) := by
              show yErr (true = true) E i from_ sec = 0
              exact (yErr_fe ⟨rfl, HRP.out⟩ HST.out).trans (fe_zero.2 HG.out)
            clear hlt
            go_wp2_with fail
            go_ret2
            exact ⟨A8, i, cap8, 0, rfl, HE.out.symm, fun _ => ⟨rfl, HQ.out.int HN300.out⟩, below_step HW2.out HQ.out.2⟩
      · have HE : Hid (yErr (true = true) E n from_ sec = 2) := yErr_range HOK.out hst
        unfold stepP InstP at hst
        have HST : Hid (¬ ((-68719476736 ≤ from_ ∧ from_ ≤ 68719476736) ∧ 1 ≤ sec ∧ sec ≤ 86400)) := hst
        clear hrb hT h40 hn1 hn2 hV
        by_cases g0 : from_ < -68719476736
        · have t0 : decide (from_ < (-68719476736 : Int)) = true := decide_eq_true g0
          clear hst g0
          go_enter Tryz.func34, Tryz.ntmps34
          go_wp2_with (first
            | (go_at_call 53
               with_reducible refine (SC.out _ ?_).mono ?_
               focus (exact HTA.out)
               rintro e w1 ⟨⟨a1, a2, a3, er, rfl, her⟩, hb1⟩
               have her' : (er == 1) = false := by have h := of_decide_eq_false (p := er = 1) her; simp [h]
               have HW1 := Lib.hid (below_step HW0.out hb1)
               obtain ⟨p0, p1, p2, p3, p4⟩ := perm_cells (HP0.out.call hb1)
               clear hb1 her)
            | (go_at_call 16
               with_reducible refine (SV.out _).mono ?_
               rintro e w2 ⟨rfl, hb2⟩
               have HW2 := Lib.hid (below_step HW1.out hb2)
               clear hb2))
          go_ret2
          exact yrs_nil HE.out (by decide) HW2.out
        · have t0 : decide (from_ < (-68719476736 : Int)) = false := decide_eq_false g0
          by_cases g1 : 68719476736 < from_
          · have t1 : decide ((68719476736 : Int) < from_) = true := decide_eq_true g1
            clear hst g0 g1
            go_enter Tryz.func34, Tryz.ntmps34
            go_wp2_with (first
              | (go_at_call 53
                 with_reducible refine (SC.out _ ?_).mono ?_
                 focus (exact HTA.out)
                 rintro e w1 ⟨⟨a1, a2, a3, er, rfl, her⟩, hb1⟩
                 have her' : (er == 1) = false := by have h := of_decide_eq_false (p := er = 1) her; simp [h]
                 have HW1 := Lib.hid (below_step HW0.out hb1)
                 obtain ⟨p0, p1, p2, p3, p4⟩ := perm_cells (HP0.out.call hb1)
                 clear hb1 her)
              | (go_at_call 16
                 with_reducible refine (SV.out _).mono ?_
                 rintro e w2 ⟨rfl, hb2⟩
                 have HW2 := Lib.hid (below_step HW1.out hb2)
                 clear hb2))
            go_ret2
            exact yrs_nil HE.out (by decide) HW2.out
          · have t1 : decide ((68719476736 : Int) < from_) = false := decide_eq_false g1
            by_cases g2 : sec < 1
            · have t2 : decide (sec < (1 : Int)) = true := decide_eq_true g2
              clear hst g0 g1 g2
              go_enter Tryz.func34, Tryz.ntmps34
              go_wp2_with (first
                | (go_at_call 53
                   with_reducible refine (SC.out _ ?_).mono ?_
                   focus (exact HTA.out)
                   rintro e w1 ⟨⟨a1, a2, a3, er, rfl, her⟩, hb1⟩
                   have her' : (er == 1) = false := by have h := of_decide_eq_false (p := er = 1) her; simp [h]
                   have HW1 := Lib.hid (below_step HW0.out hb1)
                   obtain ⟨p0, p1, p2, p3, p4⟩ := perm_cells (HP0.out.call hb1)
                   clear hb1 her)
                | (go_at_call 16
                   with_reducible refine (SV.out _).mono ?_
                   rintro e w2 ⟨rfl, hb2⟩
                   have HW2 := Lib.hid (below_step HW1.out hb2)
                   clear hb2))
              go_ret2
              exact yrs_nil HE.out (by decide) HW2.out
            · have t2 : decide (sec < (1 : Int)) = false := decide_eq_false g2
              by_cases g3 : 86400 < sec
              · have t3 : decide ((86400 : Int) < sec) = true := decide_eq_true g3
                clear hst g0 g1 g2 g3
                go_enter Tryz.func34, Tryz.ntmps34
                go_wp2_with (first
                  | (go_at_call 53
                     with_reducible refine (SC.out _ ?_).mono ?_
                     focus (exact HTA.out)
                     rintro e w1 ⟨⟨a1, a2, a3, er, rfl, her⟩, hb1⟩
                     have her' : (er == 1) = false := by have h := of_decide_eq_false (p := er = 1) her; simp [h]
                     have HW1 := Lib.hid (below_step HW0.out hb1)
                     obtain ⟨p0, p1, p2, p3, p4⟩ := perm_cells (HP0.out.call hb1)
                     clear hb1 her)
                  | (go_at_call 16
                     with_reducible refine (SV.out _).mono ?_
                     rintro e w2 ⟨rfl, hb2⟩
                     have HW2 := Lib.hid (below_step HW1.out hb2)
                     clear hb2))
                go_ret2
                exact yrs_nil HE.out (by decide) HW2.out
              · have t3 : decide ((86400 : Int) < sec) = false := decide_eq_false g3
                exact absurd (show _ ∧ _ by omega) hst
end Go.Proofs.YtigocjhmgmhocaaGreatDoor

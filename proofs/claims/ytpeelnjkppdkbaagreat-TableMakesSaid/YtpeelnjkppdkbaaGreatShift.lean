/- Merged: CutP, Shift. -/
import Derived.Test.YtpeelnjkppdkbaaGreatCutT
import Derived.Test.YtpeelnjkppdkbaaGreatSumQ
import Derived.Test.YtpeelnjkppdkbaaGreatOver
namespace Go.Proofs.YtpeelnjkppdkbaaGreat
set_option linter.unusedVariables false
set_option linter.unusedSimpArgs false

theorem val_shift (X Y : Nat → Int) (dx dy : Int) : ∀ m x, Val.val (fun k => X k + dx) (fun k => Y k + dy) m (x + dx) = Val.val X Y m x + dy := by
  intro m
  induction m with
  | zero => intro x; rfl
  | succ m ih =>
    intro x
    simp only [Val.val]
    by_cases h1 : X (m + 1) ≤ x
    · rw [if_pos h1, if_pos (by omega)]
    · rw [if_neg h1, if_neg (by omega)]
      by_cases h2 : X m ≤ x
      · rw [if_pos h2, if_pos (by omega)]
        show (Y m + dy) + ((Y (m + 1) + dy) - (Y m + dy)) * ((x + dx) - (X m + dx)) / ((X (m + 1) + dx) - (X m + dx)) = (Y m + (Y (m + 1) - Y m) * (x - X m) / (X (m + 1) - X m)) + dy
        rw [show Y (m + 1) + dy - (Y m + dy) = Y (m + 1) - Y m by omega, show x + dx - (X m + dx) = x - X m by omega, show X (m + 1) + dx - (X m + dx) = X (m + 1) - X m by omega]
        omega
      · rw [if_neg h2, if_neg (by omega)]
        exact ih x
theorem tab_shift {n : Nat} {X Y : Nat → Int} {dx dy : Int} (hv : TabOK n X Y) (hX : ∀ k, k < n → inB (X k + dx)) (hY : ∀ k, k < n → inB (Y k + dy)) : TabOK n (fun k => X k + dx) (fun k => Y k + dy) :=
  ⟨hv.1, hv.2.1, fun k hk => ⟨hX k hk, hY k hk, fun h0 => by have := (hv.2.2 k hk).2.2 h0; exact ⟨by show X (k - 1) + dx < X k + dx; omega, by show Y (k - 1) + dy ≤ Y k + dy; omega⟩⟩⟩
end Go.Proofs.YtpeelnjkppdkbaaGreat

namespace Go.Proofs.YtpeelnjkppdkbaaGreat
open Go.RowKit
set_option linter.unusedVariables false
set_option linter.unusedSimpArgs false

/-- What Shift answers where its arguments are right. -/
def ShiftPost (w : World) (n : Nat) (P Q : Nat → Int) (e : Ending) (w' : World) : Prop :=
  ((∃ k, k < n ∧ ¬ (inB (P k) ∧ inB (Q k))) ∧ e = .returned (.tuple #[.slice none 0 0, .int .i64 5]) ∧ Below w.heap.size w w') ∨
  ((∀ k, k < n → inB (P k) ∧ inB (Q k)) ∧ ∃ g cap : Nat, e = .returned (.tuple #[.slice (some ⟨g, 0, none⟩) n cap, .int .i64 0]) ∧ w.heap.size ≤ g ∧ TabAt w' g 0 n P Q ∧ Below w.heap.size w w')
/-- What the loop of Shift keeps: the new row, its first i knots written. -/
def ShMem (w0 wr : World) (g n i : Nat) (P Q : Nat → Int) : Prop := w0.heap.size ≤ g ∧ (∃ cs : Array Value, Blk wr g 47 cs ∧ cs.size = n * 2 ∧ ∀ k, k < i → cs[k * 2]? = some (.int .i64 (P k)) ∧ cs[k * 2 + 1]? = some (.int .i64 (Q k))) ∧ Below w0.heap.size w0 wr
theorem ShMem.call {w0 wr w' : World} {g n i : Nat} {P Q : Nat → Int} (h : ShMem w0 wr g n i P Q) (hb : Below wr.heap.size wr w') : ShMem w0 w' g n i P Q := by
  obtain ⟨h1, ⟨cs, hk, hs, hc⟩, hb0⟩ := h
  exact ⟨h1, ⟨cs, hk.call hb, hs, hc⟩, hb0.trans (hb.mono hb0.size)⟩
theorem ShMem.set {w0 wr : World} {g n i : Nat} {P Q : Nat → Int} (h : ShMem w0 wr g n i P Q) (hi : i < n) : ShMem w0 ((wr.setCell ⟨g, i * 2, none⟩ (.int .i64 (P i))).setCell ⟨g, i * 2 + 1, none⟩ (.int .i64 (Q i))) g n (i + 1) P Q := by
  obtain ⟨h1, ⟨cs, hk, hs, hc⟩, hb0⟩ := h
  refine ⟨h1, ⟨(cs.setIfInBounds (i * 2) (.int .i64 (P i))).setIfInBounds (i * 2 + 1) (.int .i64 (Q i)), (hk.set_ _ _).set_ _ _, by simp [hs], fun k hki => ?_⟩, (hb0.setCell (p := ⟨g, i * 2, none⟩) h1 _).setCell (p := ⟨g, i * 2 + 1, none⟩) h1 _⟩
  rcases Nat.lt_or_ge k i with h2 | h2
  · obtain ⟨a, b⟩ := hc k h2
    constructor
    · rw [Array.getElem?_setIfInBounds_ne (by omega), Array.getElem?_setIfInBounds_ne (by omega)]; exact a
    · rw [Array.getElem?_setIfInBounds_ne (by omega), Array.getElem?_setIfInBounds_ne (by omega)]; exact b
  · have : k = i := by omega
    subst this
    constructor
    · rw [Array.getElem?_setIfInBounds_ne (by omega), Array.getElem?_setIfInBounds_self_of_lt (by rw [hs]; omega)]
    · rw [Array.getElem?_setIfInBounds_self_of_lt (by simp [hs]; omega)]
theorem ShMem.tab {w0 wr : World} {g n : Nat} {P Q : Nat → Int} (h : ShMem w0 wr g n n P Q) : TabAt wr g 0 n P Q := by
  obtain ⟨h1, ⟨cs, hk, hs, hc⟩, hb0⟩ := h
  refine ⟨hk.lt, fun k hki => ?_⟩
  rw [Nat.zero_add, hk.cell, hk.cell]
  exact hc k hki
theorem own_blk {w : World} {base g n cap : Nat} {e : TypeId} {xs : List Value} (h : w.ownsRow base e 2 (.slice (some ⟨g, 0, none⟩) n cap) n xs) (hc : cap = n) : base ≤ g ∧ ∃ cs : Array Value, Blk w g e cs ∧ cs.size = n * 2 := by
  rcases h.2 with ⟨h0, _⟩ | ⟨g', cap', cur, hv, hg, hb, hn, hm, hs, _⟩
  · cases h0
  · cases hv
    exact ⟨hg, cur, hb, by rw [hs, hc]⟩
set_option maxRecDepth 100000 in
set_option maxHeartbeats 4000000 in
theorem tshift (b off n c : Nat) (X Y : Nat → Int) (dx dy : Int) (hv : TabOK n X Y) (h1 : -2251799813685248 ≤ dx ∧ dx ≤ 2251799813685248) (h2 : -2251799813685248 ≤ dy ∧ dy ≤ 2251799813685248) (w : World) (ht : TabAt w b off n X Y) :
    Calls Tryz.prog 8 #[.slice (some ⟨b, off, none⟩) n c, .int .i64 dx, .int .i64 dy] w (ShiftPost w n (fun k => X k + dx) (fun k => Y k + dy)) := by
  have S0 := Lib.hid fun w ht => tvalid b off n c X Y w hv.1 hv.2.1 ht
  have tv := tabB_true hv
  have H100 : Hid (n ≤ 100) := hv.2.1
  have HV := Lib.hid hv
  have HT := Lib.hid ht
  have hb := ht.1
  have H1 := Lib.hid h1
  have H2 := Lib.hid h2
  have t1 : decide (dx < -2251799813685248) = false := decide_eq_false (by omega)
  have t2 : decide ((2251799813685248 : Int) < dx) = false := decide_eq_false (by omega)
  have t3 : decide (dy < -2251799813685248) = false := decide_eq_false (by omega)
  have t4 : decide ((2251799813685248 : Int) < dy) = false := decide_eq_false (by omega)
  obtain ⟨KI0, ki0, kz0, kz1, kz2⟩ := info_parts1 info39
  have KI1 := Lib.hid ki0
  have KI2 := Lib.hid kz0
  have KI3 := Lib.hid kz1
  have KI4 := Lib.hid kz2
  clear ki0 kz0 kz1 kz2 hv ht h1 h2
  go_enter Tryz.func8, Tryz.ntmps8
  go_wp2_with (first
    | ((go_at_call 19; (with_reducible refine (S0.out _ ?_).mono ?_); (focus (exact HT.out.below (by (repeat' (first | assumption | exact Below.refl _ _ | exact Below.size (by assumption) | (refine Below.setCell ?_ ?_ _) | (refine Below.alloc ?_ ?_ _) | (refine Below.drew ?_) | (refine below_drewN ?_ _) | (refine Below.trans ?_ (Below.mono ‹Below _ _ _› ?_)) | omega | (simp; done) | (simp; omega) | (simp at *; omega)))) hb)); rintro e w1 ⟨rfl, hb1⟩; obtain ⟨hc1, hf1⟩ := bcell hb1; have hz1 := hb1.size; (try simp at hz1); (try simp only [heap_drew, World.heap_drewN] at hz1); (try simp only [heap_drew, World.heap_drewN] at hc1); (try simp only [heap_drew, World.heap_drewN] at hf1); (try have hs1 := Nat.lt_of_succ_le hz1); (try have hs2 := Nat.lt_of_succ_lt hs1); (try have y0 : w.heap.size < w1.heap.size := by omega); (try have y1 : w.heap.size + 1 < w1.heap.size := by omega); (try have y2 : w.heap.size + 2 < w1.heap.size := by omega))
       have HW1 : Hid (Below w.heap.size w w1) := (by show Below _ _ _; (repeat' (first | assumption | exact Below.refl _ _ | exact Below.size (by assumption) | (refine Below.setCell ?_ ?_ _) | (refine Below.alloc ?_ ?_ _) | (refine Below.drew ?_) | (refine below_drewN ?_ _) | (refine Below.trans ?_ (Below.mono ‹Below _ _ _› ?_)) | omega | (simp; done) | (simp; omega) | (simp at *; omega))))
       clear hc1 hf1 hb1)
    | (at_make; refine wpList_make_full _ rfl _ _ 23 rfl w1.heap.size 47 KI0 (.agg #[.int .i64 0, .int .i64 0]) 2 Tryz.underlying23 KI1.out KI2.out KI3.out .i64 .i64 _ _ n rfl rfl rfl rfl (by rw [KI4.out]; have := H100.out; omega) (by have := H100.out; unfold maxLen; omega) (Nat.le_refl _) ?_
       intro wm hownm hgrowm
       obtain ⟨hgm, csm, hkm, hsm⟩ := own_blk hownm rfl
       have HM0 : Hid (ShMem w1 wm w1.heap.size n 0 (fun k => X k + dx) (fun k => Y k + dy)) := ⟨hgm, ⟨csm, hkm, hsm, fun k hk => absurd hk (Nat.not_lt_zero _)⟩, hgrowm.os, hgrowm.tape, hgrowm.output, hgrowm.size, fun k hk => hgrowm.block k hk (by simp)⟩
       clear hownm hgrowm hgm hkm hsm))
  go_loopw [33] (fun u wr => ∃ i : Nat, Hid (i ≤ n) ∧ u = .int .i64 i ∧ Hid (ShMem w1 wr w1.heap.size n i (fun k => X k + dx) (fun k => Y k + dy)) ∧ Hid (∀ k, k < i → inB (X k + dx) ∧ inB (Y k + dy))) (fun u _ => n - (intOf u).toNat)
  case atStart => exact ⟨0, Nat.zero_le _, rfl, HM0, fun k hk => absurd hk (Nat.not_lt_zero _)⟩
  case round =>
    obtain ⟨i, Hi, rfl, HM, HF⟩ := hrel
    have HWr : Hid (Below w.heap.size w wr) := HW1.out.trans (HM.out.2.2.mono HW1.out.size)
    by_cases hlt : i < n
    · have T0 : decide ((i : Int) < (n : Int)) = true := by simp <;> omega
      have T0' : decide (i < n) = true := decide_eq_true hlt
      have HLT := Lib.hid hlt
      obtain ⟨i', hi'⟩ : ∃ z, z = i + 1 := ⟨_, rfl⟩
      have x0 : IntKind.i64.wrap ((i : Int) + 1) = (i' : Int) := by have := H100.out; rw [IntKind.wrap_i64]; omega
      have HI' : Hid (i' ≤ n) := by show i' ≤ n; omega
      have HIS := Lib.hid hi'
      have HMS : Hid (n - (intOf (Value.int .i64 (i' : Int))).toNat < n - (intOf (Value.int .i64 (i : Int))).toNat) := by show _ < _; simp [intOf]; omega
      have HTr := HT.out.below HWr.out hb
      have hx1 := (HTr.2 i hlt).1
      have hy1 := (HTr.2 i hlt).2
      have k0 : (0 : Int) ≤ (i : Int) := by omega
      have k1 : (i : Int) < (n : Int) := by omega
      have bi := in_of HV.out hlt
      obtain ⟨px, hpx⟩ : ∃ z, z = X i + dx := ⟨_, rfl⟩
      obtain ⟨qx, hqx⟩ : ∃ z, z = Y i + dy := ⟨_, rfl⟩
      have v1 : IntKind.i64.wrap (X i + dx) = px := by have := H1.out; rw [hpx, IntKind.wrap_i64]; omega
      have v2 : IntKind.i64.wrap (Y i + dy) = qx := by have := H2.out; rw [hqx, IntKind.wrap_i64]; omega
      have F1 := Lib.hid fun w => tfits px w
      have F2 := Lib.hid fun w => tfits qx w
      have HPX := Lib.hid hpx
      have HQX := Lib.hid hqx
      clear hi' HTr bi hlt hpx hqx
      go_upto_region 9 with fail
      have hMk := HM.out.call (w' := wr.alloc (Obj.cells #[.int .i64 (X i), .int .i64 (Y i)] 47)) (by (repeat' (first | assumption | exact Below.refl _ _ | exact Below.size (by assumption) | (refine Below.setCell ?_ ?_ _) | (refine Below.alloc ?_ ?_ _) | (refine Below.drew ?_) | (refine below_drewN ?_ _) | (refine Below.trans ?_ (Below.mono ‹Below _ _ _› ?_)) | omega | (simp; done) | (simp; omega) | (simp at *; omega))))
      have hK : Blk (wr.alloc (Obj.cells #[.int .i64 (X i), .int .i64 (Y i)] 47)) wr.heap.size 47 #[.int .i64 (X i), .int .i64 (Y i)] := Blk.new _ _ _
      generalize wr.alloc (Obj.cells #[.int .i64 (X i), .int .i64 (Y i)] 47) = wk at hMk hK ⊢
      generalize wr.heap.size = G at hK ⊢
      have HMk := Lib.hid hMk
      obtain ⟨_, ⟨cs, hk, hs, _⟩, _⟩ := hMk
      have q0 := hK.cell 0
      have q1 := hK.cell 1
      simp only [List.getElem?_toArray, List.getElem?_cons_succ, List.getElem?_cons_zero] at q0 q1
      have c0 : wk.cell? ⟨w1.heap.size, i * 2, none⟩ = some (cs[i * 2]'(by have := HLT.out; omega)) := (hk.cell _).trans (Array.getElem?_eq_getElem _)
      have c1 : wk.cell? ⟨w1.heap.size, i * 2 + 1, none⟩ = some (cs[i * 2 + 1]'(by have := HLT.out; omega)) := (hk.cell _).trans (Array.getElem?_eq_getElem _)
      generalize cs[i * 2]'_ = u0 at c0
      generalize cs[i * 2 + 1]'_ = u1 at c1
      have g0 := hk.frozen (i * 2)
      have g1 := hk.frozen (i * 2 + 1)
      clear hk hs hK hx1 hy1
      go_upto_region 10 with fail
      have HMz : Hid (ShMem w1 ((wk.setCell ⟨w1.heap.size, i * 2, none⟩ (.int .i64 px)).setCell ⟨w1.heap.size, i * 2 + 1, none⟩ (.int .i64 qx)) w1.heap.size n (i + 1) (fun k => X k + dx) (fun k => Y k + dy)) := by
        have h := HMk.out.set HLT.out
        rw [HPX.out, HQX.out]
        exact h
      generalize (wk.setCell ⟨w1.heap.size, i * 2, none⟩ (.int .i64 px)).setCell ⟨w1.heap.size, i * 2 + 1, none⟩ (.int .i64 qx) = wz at HMz ⊢
      obtain ⟨_, ⟨cz, hkz, hsz, hcz⟩, _⟩ := HMz.out
      obtain ⟨hz0, hz1⟩ := hcz i (Nat.lt_succ_self i)
      have z0 : wz.cell? ⟨w1.heap.size, i * 2, none⟩ = some (.int .i64 px) := by rw [hkz.cell, hz0, HPX.out]
      have z1 : wz.cell? ⟨w1.heap.size, i * 2 + 1, none⟩ = some (.int .i64 qx) := by rw [hkz.cell, hz1, HQX.out]
      have HWz : Hid (Below w.heap.size w wz) := HW1.out.trans (HMz.out.2.2.mono HW1.out.size)
      clear hkz hsz hcz hz0 hz1 c0 c1 g0 g1 q0 q1
      by_cases hp : inB px
      · have b1 := betw_true hp
        by_cases hq : inB qx
        · have b2 := betw_true hq
          have HBB := Lib.hid (And.intro hp hq)
          clear hp hq
          go_wp2_with (first | (go_at_call 25; (with_reducible refine (F1.out _).mono ?_); rintro e w' ⟨rfl, rfl⟩) | (go_at_call 25; (with_reducible refine (F2.out _).mono ?_); rintro e w' ⟨rfl, rfl⟩))
          go_roundw
          case rel =>
            refine ⟨i', HI', rfl, by rw [HIS.out]; exact HMz, ?_⟩
            show ∀ k, k < i' → _
            intro k hk
            rcases Nat.lt_or_ge k i with h | h
            · exact HF.out k h
            · have : k = i := by have := HIS.out; omega
              rw [this, ← HPX.out, ← HQX.out]; exact HBB.out
          case measure => exact HMS.out
        · have b2 := betw_false hq
          have HBB := Lib.hid hq
          clear hp hq
          go_wp2_with (first | (go_at_call 25; (with_reducible refine (F1.out _).mono ?_); rintro e w' ⟨rfl, rfl⟩) | (go_at_call 25; (with_reducible refine (F2.out _).mono ?_); rintro e w' ⟨rfl, rfl⟩))
          go_ret2
          exact .inl ⟨⟨i, HLT.out, fun h => HBB.out (by rw [HQX.out]; exact h.2)⟩, rfl, HWz.out⟩
      · have b1 := betw_false hp
        have HBB := Lib.hid hp
        clear hp
        go_wp2_with (first | (go_at_call 25; (with_reducible refine (F1.out _).mono ?_); rintro e w' ⟨rfl, rfl⟩) | (go_at_call 25; (with_reducible refine (F2.out _).mono ?_); rintro e w' ⟨rfl, rfl⟩))
        go_ret2
        exact .inl ⟨⟨i, HLT.out, fun h => HBB.out (by rw [HPX.out]; exact h.1)⟩, rfl, HWz.out⟩
    · have e : i = n := by have := Hi.out; omega
      have T0 : decide ((i : Int) < (n : Int)) = false := by simp <;> omega
      have T0' : decide (i < n) = false := decide_eq_false hlt
      rw [e] at HM HF
      clear e hlt
      go_wp2_with fail
      go_ret2
      exact .inr ⟨HF.out, _, _, rfl, HW1.out.size, HM.out.tab, HWr.out⟩
end Go.Proofs.YtpeelnjkppdkbaaGreat

/- The reference's part of a table, and its table that is moved. -/
import Derived.Test.YtpeelnjkppdkbaaGreatCutT
import Derived.Test.YtpeelnjkppdkbaaGreatShift
import Derived.Test.YtpeelnjkppdkbaaGreatAdd
import Derived.Deep.RegionHeld3
import Derived.Deep.AppendLies
namespace Go.Proofs.YtpeelnjkppdkbaaGreat
open Go.RowKit
set_option linter.unusedVariables false
set_option linter.unusedSimpArgs false

/-- What the loop of the reference's Cut keeps. -/
def RCut (w0 wr : World) (g cap K : Nat) (xs : List Value) : Prop := wr.ownsRow w0.heap.size 47 2 (.slice (some ⟨g, 0, none⟩) K cap) K xs ∧ Below w0.heap.size w0 wr
theorem RCut.call {w0 wr w' : World} {g cap K : Nat} {xs : List Value} (h : RCut w0 wr g cap K xs) (hb : Below wr.heap.size wr w') : RCut w0 w' g cap K xs := ⟨own_below h.1 hb, below_step h.2 hb⟩
theorem RCut.app {w0 wr w' : World} {g cap K g' cap' : Nat} {xs news : List Value} {cs : Array Value} (h : RCut w0 wr g cap K xs)
    (hown : w'.ownsRow w0.heap.size 47 2 (.slice (some ⟨g', 0, none⟩) (K + 1) cap') (K + 1) (xs ++ news)) (hg : (wr.alloc (.cells cs 47)).grownBy w' (Value.slice (some ⟨g, 0, none⟩) K cap).ownBlock) : RCut w0 w' g' cap' (K + 1) (xs ++ news) :=
  ⟨hown, below_own (h.1.alloc _) (h.2.alloc h.2.size _) hg⟩
theorem RCut.post {w w0 wr : World} {g cap K : Nat} {L : List (Int × Int)} (h : RCut w0 wr g cap K (kc L)) (hw : Below w.heap.size w w0) (hK : K = L.length) (h1 : K ≤ 100) : CutPost w L (.returned (.tuple #[.slice (some ⟨g, 0, none⟩) K cap, .int .i64 0])) wr := by
  subst hK
  exact .inl ⟨h1, g, cap, rfl, Nat.le_trans hw.size (h.1.lt g rfl).1, tab_of_kc h.1, below_step hw h.2⟩
set_option maxRecDepth 100000 in
set_option maxHeartbeats 4000000 in
theorem rcut_in (b off n m c : Nat) (X Y : Nat → Int) (lo hi : Int) (hn : n = m + 1) (hv : TabOK n X Y) (hlo : inB lo) (hhi : inB hi) (hle : lo ≤ hi) (w : World) (ht : TabAt w b off n X Y) :
    Calls Tryz.prog 10 #[.slice (some ⟨b, off, none⟩) n c, .int .i64 lo, .int .i64 hi] w (CutPost w (cutL X Y m lo hi)) := by
  have S0 := Lib.hid fun w ht => rvalid b off n c X Y w hv.1 hv.2.1 ht
  have tv := tabB_true hv
  have h100 := hv.2.1
  have sl := fun w ht => rfloor b off m c X Y lo (hn ▸ hv) (by unfold inB at hlo; omega) w ht
  have sh := fun w ht => rfloor b off m c X Y hi (hn ▸ hv) (by unfold inB at hhi; omega) w ht
  rw [← hn] at sl sh
  have SL := Lib.hid sl
  have SH := Lib.hid sh
  have SF1 := Lib.hid fun w => rnumber lo w
  have SF2 := Lib.hid fun w => rnumber hi w
  have f1 := betw_true hlo
  have f2 := betw_true hhi
  have T1 : decide (hi < lo) = false := decide_eq_false (by omega)
  have HT := Lib.hid ht
  have H100 := Lib.hid h100
  have hb := ht.1
  obtain ⟨vl, hvl⟩ : ∃ v, v = Val.val X Y m lo := ⟨_, rfl⟩
  obtain ⟨vh, hvh⟩ : ∃ v, v = Val.val X Y m hi := ⟨_, rfl⟩
  have HVL := Lib.hid hvl
  have HVH := Lib.hid hvh
  have HN := Lib.hid hn
  rw [← hvl] at SL
  rw [← hvh] at SH
  clear hn hv ht hlo hhi hle hvl hvh h100 sl sh
  go_enter Tryz.func10, Tryz.ntmps10
  go_upto_region 5 with (first | (go_at_call 27; (with_reducible refine (S0.out _ ?_).mono ?_); (focus (exact HT.out.below (by (repeat' (first | assumption | exact Below.refl _ _ | exact Below.size (by assumption) | (refine Below.setCell ?_ ?_ _) | (refine Below.alloc ?_ ?_ _) | (refine Below.drew ?_) | (refine below_drewN ?_ _) | (refine Below.trans ?_ (Below.mono ‹Below _ _ _› ?_)) | omega | (simp; done) | (simp; omega) | (simp at *; omega)))) hb)); rintro e w1 ⟨rfl, hb1⟩; obtain ⟨hc1, hf1⟩ := bcell hb1; have hz1 := hb1.size; (try simp at hz1); (try simp only [heap_drew, World.heap_drewN] at hz1); (try simp only [heap_drew, World.heap_drewN] at hc1); (try simp only [heap_drew, World.heap_drewN] at hf1); (try have hs1 := Nat.lt_of_succ_le hz1); (try have hs2 := Nat.lt_of_succ_lt hs1); (try have y0 : w.heap.size < w1.heap.size := by omega); (try have y1 : w.heap.size + 1 < w1.heap.size := by omega); (try have y2 : w.heap.size + 2 < w1.heap.size := by omega)) | (go_at_call 30; (with_reducible refine (SF1.out _).mono ?_); rintro e w' ⟨rfl, rfl⟩) | (go_at_call 30; (with_reducible refine (SF2.out _).mono ?_); rintro e w' ⟨rfl, rfl⟩))
  have hbW1 : Below w.heap.size w w1 := by (repeat' (first | assumption | exact Below.refl _ _ | exact Below.size (by assumption) | (refine Below.setCell ?_ ?_ _) | (refine Below.alloc ?_ ?_ _) | (refine Below.drew ?_) | (refine below_drewN ?_ _) | (refine Below.trans ?_ (Below.mono ‹Below _ _ _› ?_)) | omega | (simp; done) | (simp; omega) | (simp at *; omega)))
  have HBW := Lib.hid hbW1
  clear hbW1 hc1 hf1 hb1
  go_upto_region 6 with (first
    | (go_at_call 31
       with_reducible refine (SL.out _ ?_).mono ?_
       focus (exact HT.out.below HBW.out hb)
       rintro e w2 ⟨rfl, hb2⟩
       have HB2 := Lib.hid (below_step HBW.out hb2)
       clear hb2))
  have hM0 : RCut w2 (w2.alloc (Obj.cells #[.int .i64 lo, .int .i64 vl] 47)) w2.heap.size 1 1 (kc (cutC X Y lo hi vl 0)) :=
    ⟨own_lit_at rfl (Nat.le_refl _) 1 (by simp [maxLen]) rfl rfl, (Below.refl _ _).alloc (Nat.le_refl _) _⟩
  obtain ⟨w3, hw3⟩ : ∃ z, z = w2.alloc (Obj.cells #[.int .i64 lo, .int .i64 vl] 47) := ⟨_, rfl⟩
  rw [← hw3] at hM0 ⊢
  obtain ⟨g0, hg0⟩ : ∃ z, z = w2.heap.size := ⟨_, rfl⟩
  have HM0 : Hid (RCut w2 w3 g0 1 1 (kc (cutC X Y lo hi vl 0))) := by rw [hg0]; exact hM0
  rw [← hg0]
  clear hM0 hw3 hg0
  obtain ⟨i0, hi0, hz0, hz1, hz2⟩ := info_parts1 info39
  have HI0 := Lib.hid hi0
  have HZ0 := Lib.hid hz0
  have HZ1 := Lib.hid hz1
  have HZ2 := Lib.hid hz2
  clear hi0 hz0 hz1 hz2
  go_wp2_with fail
  go_loopw [8, 9] (fun u v wr => ∃ i g cap K : Nat, Hid (i ≤ n) ∧ Hid (K = (cutC X Y lo hi vl i).length) ∧ u = .slice (some ⟨g, 0, none⟩) K cap ∧ v = .int .i64 i ∧ Hid (RCut w2 wr g cap K (kc (cutC X Y lo hi vl i)))) (fun _ v _ => n - (intOf v).toNat)
  case atStart => exact ⟨0, g0, 1, 1, Nat.zero_le _, rfl, rfl, rfl, HM0⟩
  case round =>
    obtain ⟨i, g, cap, K, Hi, HK, rfl, rfl, HM⟩ := hrel
    have HB300 : Hid (K ≤ 300) := by show K ≤ 300; have := HK.out; have := cutC_len X Y lo hi vl i; have := Hi.out; have := H100.out; omega
    have HWr : Hid (Below w.heap.size w wr) := below_step HB2.out HM.out.2
    by_cases hlt : i < n
    · have T0 : decide ((i : Int) < (n : Int)) = true := by simp <;> omega
      have T0' : decide (i < n) = true := decide_eq_true hlt
      obtain ⟨i', hi'⟩ : ∃ z, z = i + 1 := ⟨_, rfl⟩
      have x0 : IntKind.i64.wrap ((i : Int) + 1) = (i' : Int) := by have := H100.out; rw [IntKind.wrap_i64]; omega
      have HI' : Hid (i' ≤ n) := by show i' ≤ n; omega
      have HMS : Hid (n - (intOf (Value.int .i64 (i' : Int))).toNat < n - (intOf (Value.int .i64 (i : Int))).toNat) := by show _ < _; simp [intOf]; omega
      have HTr := HT.out.below HWr.out hb
      have hx1 := (HTr.2 i hlt).1
      have hy1 := (HTr.2 i hlt).2
      have k0 : (0 : Int) ≤ (i : Int) := by omega
      have k1 : (i : Int) < (n : Int) := by omega
      have hIn : lo < X i → X i < hi → Hid (cutC X Y lo hi vl i' = cutC X Y lo hi vl i ++ [(X i, Y i)]) := fun h1 h2 => by rw [hi']; exact cutC_in h1 h2
      have hOut : ¬ (lo < X i ∧ X i < hi) → Hid (cutC X Y lo hi vl i' = cutC X Y lo hi vl i) := fun h => by rw [hi']; exact cutC_out h
      obtain ⟨xx, hxx⟩ : ∃ z, z = X i := ⟨_, rfl⟩
      obtain ⟨yy, hyy⟩ : ∃ z, z = Y i := ⟨_, rfl⟩
      rw [← hxx] at hx1 hIn hOut
      rw [← hyy] at hy1 hIn
      clear hi' HTr hlt hxx hyy
      by_cases hl : lo < xx
      · by_cases hh : xx < hi
        · have t1 := decide_eq_true hl
          have t2 := decide_eq_true hh
          have HE := hIn hl hh
          clear hIn hOut hl hh
          go_wp2_with (first
            | (at_builtin; refine wpList_append_own_at _ ?g1 (.tmp 54) (.tmp 59) 23 ?g2 (w2.heap.size) 47 i0 (.agg #[.int .i64 0, .int .i64 0]) 2 16 Tryz.underlying23 HI0.out HZ0.out HZ1.out HZ2.out ?g3 ?g4 (.slice (some ⟨g, 0, none⟩) K cap) K (kc (cutC X Y lo hi vl i)) ?g5 ?g6 ⟨wr.heap.size, 0, none⟩ 1 1 [.int .i64 xx, .int .i64 yy] ?g7 ?g8 ?g9 ?g10 (h63_le HB300.out) (hby_le HB300.out) ?g11 ?g14
               case g1 => exact rfl
               case g2 => exact rfl
               case g3 => exact rfl
               case g4 => decide
               case g5 => exact rfl
               case g6 => exact (HM.out.1.alloc _)
               case g7 => exact rfl
               case g8 => exact rfl
               case g9 => exact World.news_of_block (cs := #[.int .i64 xx, .int .i64 yy]) (t := 47) (fr := (0, 0)) (heap_alloc_new _ _)
               case g10 => simp [Value.oneCell']
               case g11 => exact base_alloc1 HM.out.2.size _
               intro v2 w4 hown2 hgrow2 hnil2 hat2
               obtain ⟨g2, cap2, rfl, hb2, hl2⟩ := hown2.form (Nat.succ_pos _)
               have HM2 := Lib.hid (HM.out.app hown2 hgrow2)
               clear hown2 hgrow2 hnil2 hat2))
          go_roundw
          case rel => exact ⟨i', g2, cap2, K + 1, HI', by show K + 1 = _; rw [HE.out, HK.out, List.length_append]; rfl, rfl, rfl, by rw [HE.out, kc_append, kc_one]; exact HM2⟩
          case measure => exact HMS.out
        · have t1 := decide_eq_true hl
          have t2 := decide_eq_false hh
          have HE := hOut (fun h => hh h.2)
          clear hIn hOut hl hh
          go_wp2_with fail
          go_roundw
          case rel => exact ⟨i', g, cap, K, HI', by rw [HE.out]; exact HK, rfl, rfl, by rw [HE.out]; exact HM.out.call (by (repeat' (first | assumption | exact Below.refl _ _ | exact Below.size (by assumption) | (refine Below.setCell ?_ ?_ _) | (refine Below.alloc ?_ ?_ _) | (refine Below.drew ?_) | (refine below_drewN ?_ _) | (refine Below.trans ?_ (Below.mono ‹Below _ _ _› ?_)) | omega | (simp; done) | (simp; omega) | (simp at *; omega))))⟩
          case measure => exact HMS.out
      · have t1 := decide_eq_false hl
        have HE := hOut (fun h => hl h.1)
        clear hIn hOut hl
        go_wp2_with fail
        go_roundw
        case rel => exact ⟨i', g, cap, K, HI', by rw [HE.out]; exact HK, rfl, rfl, by rw [HE.out]; exact HM.out.call (by (repeat' (first | assumption | exact Below.refl _ _ | exact Below.size (by assumption) | (refine Below.setCell ?_ ?_ _) | (refine Below.alloc ?_ ?_ _) | (refine Below.drew ?_) | (refine below_drewN ?_ _) | (refine Below.trans ?_ (Below.mono ‹Below _ _ _› ?_)) | omega | (simp; done) | (simp; omega) | (simp at *; omega))))⟩
        case measure => exact HMS.out
    · have e : i = n := by have := Hi.out; omega
      have T0' : decide (i < n) = false := decide_eq_false hlt
      have T0 : decide ((i : Int) < (n : Int)) = false := by simp <;> omega
      have hEq : i = m + 1 := by rw [e]; exact HN.out
      rw [hEq] at HK HM
      have HE : Hid (i = m + 1) := hEq
      clear e hEq hlt
      by_cases hlh : lo < hi
      · have t3 := decide_eq_true hlh
        have HL : Hid (cutL X Y m lo hi = cutC X Y lo hi vl (m + 1) ++ [(hi, vh)]) := by
          show _ = _; rw [cutL_lt hlh, ← HVL.out, ← HVH.out]
        clear hlh
        go_upto_region 13 with (first
          | (go_at_call 31
             with_reducible refine (SH.out _ ?_).mono ?_
             focus (exact HT.out.below HWr.out hb)
             rintro e wk ⟨rfl, hbk⟩
             have HMK := Lib.hid (HM.out.call hbk)
             clear hbk)
          | (at_builtin; refine wpList_append_own_at _ ?k1 (.tmp 64) (.tmp 70) 23 ?k2 (w2.heap.size) 47 i0 (.agg #[.int .i64 0, .int .i64 0]) 2 16 Tryz.underlying23 HI0.out HZ0.out HZ1.out HZ2.out ?k3 ?k4 (.slice (some ⟨g, 0, none⟩) K cap) K (kc (cutC X Y lo hi vl (m + 1))) ?k5 ?k6 ⟨wk.heap.size, 0, none⟩ 1 1 [.int .i64 hi, .int .i64 vh] ?k7 ?k8 ?k9 ?k10 (h63_le HB300.out) (hby_le HB300.out) ?k11 ?k14
             case k1 => exact rfl
             case k2 => exact rfl
             case k3 => exact rfl
             case k4 => decide
             case k5 => exact rfl
             case k6 => exact (HMK.out.1.alloc _)
             case k7 => exact rfl
             case k8 => exact rfl
             case k9 => exact World.news_of_block (cs := #[.int .i64 hi, .int .i64 vh]) (t := 47) (fr := (0, 0)) (heap_alloc_new _ _)
             case k10 => simp [Value.oneCell']
             case k11 => exact base_alloc1 HMK.out.2.size _
             intro v2 w4 hown2 hgrow2 hnil2 hat2
             obtain ⟨g2, cap2, rfl, hb2, hl2⟩ := hown2.form (Nat.succ_pos _)
             have HM2 := Lib.hid (HMK.out.app hown2 hgrow2)
             obtain ⟨K', hK'⟩ : ∃ z, z = K + 1 := ⟨_, rfl⟩
             rw [← hK'] at HM2 ⊢
             have HK' := Lib.hid hK'
             clear hown2 hgrow2 hnil2 hat2 hK'))
        have HM3 : Hid (RCut w2 w4 g2 cap2 K' (kc (cutL X Y m lo hi))) := by rw [HL.out, kc_append, kc_one]; exact HM2
        have HK3 : Hid (K' = (cutL X Y m lo hi).length) := by show K' = _; rw [HL.out, List.length_append, HK'.out, HK.out]; rfl
        by_cases h100 : 100 < K'
        · have t4 : decide ((100 : Int) < (K' : Int)) = true := decide_eq_true (by omega)
          have t5 : decide (100 < K') = true := decide_eq_true h100
          have H5 := Lib.hid h100
          clear h100
          go_wp2_with fail
          go_ret2
          exact .inr ⟨by rw [← HK3.out]; exact H5.out, rfl, below_step HB2.out HM3.out.2⟩
        · have t4 : decide ((100 : Int) < (K' : Int)) = false := decide_eq_false (by omega)
          have t5 : decide (100 < K') = false := decide_eq_false h100
          have H5 : Hid (K' ≤ 100) := by show K' ≤ 100; omega
          clear h100
          go_wp2_with fail
          go_ret2
          exact HM3.out.post HB2.out HK3.out H5.out
      · have t3 := decide_eq_false hlh
        have HL : Hid (cutL X Y m lo hi = cutC X Y lo hi vl (m + 1)) := by
          show _ = _; rw [cutL_eq hlh, ← HVL.out]
        clear hlh
        have HM3 : Hid (RCut w2 wr g cap K (kc (cutL X Y m lo hi))) := by rw [HL.out]; exact HM
        have HK3 : Hid (K = (cutL X Y m lo hi).length) := by show K = _; rw [HL.out, HK.out]
        by_cases h100 : 100 < K
        · have t4 : decide ((100 : Int) < (K : Int)) = true := decide_eq_true (by omega)
          have t5 : decide (100 < K) = true := decide_eq_true h100
          have H5 := Lib.hid h100
          clear h100
          go_wp2_with fail
          go_ret2
          exact .inr ⟨by rw [← HK3.out]; exact H5.out, rfl, below_step HB2.out HM3.out.2⟩
        · have t4 : decide ((100 : Int) < (K : Int)) = false := decide_eq_false (by omega)
          have t5 : decide (100 < K) = false := decide_eq_false h100
          have H5 : Hid (K ≤ 100) := by show K ≤ 100; omega
          clear h100
          go_wp2_with fail
          go_ret2
          exact HM3.out.post HB2.out HK3.out H5.out

set_option maxRecDepth 100000 in
set_option maxHeartbeats 4000000 in
theorem rshift06 (b off n c : Nat) (X Y : Nat → Int) (dx dy : Int) (hv : TabOK n X Y) (h1 : -2251799813685248 ≤ dx ∧ dx ≤ 2251799813685248) (h2 : -2251799813685248 ≤ dy ∧ dy ≤ 2251799813685248) (w : World) (ht : TabAt w b off n X Y) :
    Calls Tryz.prog 11 #[.slice (some ⟨b, off, none⟩) n c, .int .i64 dx, .int .i64 dy] w (ShiftPost w n (fun k => X k + dx) (fun k => Y k + dy)) := by
  have S0 := Lib.hid fun w ht => rvalid b off n c X Y w hv.1 hv.2.1 ht
  have tv := tabB_true hv
  have H100 : Hid (n ≤ 100) := hv.2.1
  have HP1 : Hid (1 ≤ n) := hv.1
  have HV := Lib.hid hv
  have HT := Lib.hid ht
  have hb := ht.1
  have H1 := Lib.hid h1
  have H2 := Lib.hid h2
  have t1 : decide (dx < -2251799813685248) = false := decide_eq_false (by omega)
  have t2 : decide ((2251799813685248 : Int) < dx) = false := decide_eq_false (by omega)
  have t3 : decide (dy < -2251799813685248) = false := decide_eq_false (by omega)
  have t4 : decide ((2251799813685248 : Int) < dy) = false := decide_eq_false (by omega)
  obtain ⟨KI0, ki0, kz0, kz1, kz2⟩ := info_parts1 info39
  have KI1 := Lib.hid ki0
  have KI2 := Lib.hid kz0
  have KI3 := Lib.hid kz1
  have KI4 := Lib.hid kz2
  obtain ⟨P, hP⟩ : ∃ P : Nat → Int, P = fun k => X k + dx := ⟨_, rfl⟩
  obtain ⟨Q, hQ⟩ : ∃ Q : Nat → Int, Q = fun k => Y k + dy := ⟨_, rfl⟩
  have HPF := Lib.hid hP
  have HQF := Lib.hid hQ
  have tabS : Hid ((∀ k, k < n → inB (P k) ∧ inB (Q k)) → TabOK n P Q) := fun h => by
    rw [hP, hQ] at h ⊢
    exact tab_shift hv (fun k hk => (h k hk).1) (fun k hk => (h k hk).2)
  rw [← hP, ← hQ]
  clear ki0 kz0 kz1 kz2 hv ht h1 h2 hP hQ
  go_enter Tryz.func11, Tryz.ntmps11
  go_wp2_with (first
    | ((go_at_call 27; (with_reducible refine (S0.out _ ?_).mono ?_); (focus (exact HT.out.below (by (repeat' (first | assumption | exact Below.refl _ _ | exact Below.size (by assumption) | (refine Below.setCell ?_ ?_ _) | (refine Below.alloc ?_ ?_ _) | (refine Below.drew ?_) | (refine below_drewN ?_ _) | (refine Below.trans ?_ (Below.mono ‹Below _ _ _› ?_)) | omega | (simp; done) | (simp; omega) | (simp at *; omega)))) hb)); rintro e w1 ⟨rfl, hb1⟩; obtain ⟨hc1, hf1⟩ := bcell hb1; have hz1 := hb1.size; (try simp at hz1); (try simp only [heap_drew, World.heap_drewN] at hz1); (try simp only [heap_drew, World.heap_drewN] at hc1); (try simp only [heap_drew, World.heap_drewN] at hf1); (try have hs1 := Nat.lt_of_succ_le hz1); (try have hs2 := Nat.lt_of_succ_lt hs1); (try have y0 : w.heap.size < w1.heap.size := by omega); (try have y1 : w.heap.size + 1 < w1.heap.size := by omega); (try have y2 : w.heap.size + 2 < w1.heap.size := by omega))
       have HW1 : Hid (Below w.heap.size w w1) := (by show Below _ _ _; (repeat' (first | assumption | exact Below.refl _ _ | exact Below.size (by assumption) | (refine Below.setCell ?_ ?_ _) | (refine Below.alloc ?_ ?_ _) | (refine Below.drew ?_) | (refine below_drewN ?_ _) | (refine Below.trans ?_ (Below.mono ‹Below _ _ _› ?_)) | omega | (simp; done) | (simp; omega) | (simp at *; omega))))
       clear hc1 hf1 hb1))
  go_loopw [8, 9] (fun u v wr => ∃ i : Nat, Hid (i ≤ n) ∧ v = .int .i64 i ∧ Hid (wr.ownsRow w1.heap.size 47 2 u i (kc (tl i P Q)) ∧ Below w1.heap.size w1 wr)) (fun _ v _ => n - (intOf v).toNat)
  case atStart => exact ⟨0, Nat.zero_le _, rfl, World.ownsRow_nil _ _ _ _, Below.refl _ _⟩
  case round =>
    obtain ⟨i, Hi, rfl, HM⟩ := hrel
    have HWr : Hid (Below w.heap.size w wr) := below_step HW1.out HM.out.2
    by_cases hlt : i < n
    · have T0 : decide ((i : Int) < (n : Int)) = true := by simp <;> omega
      have T0' : decide (i < n) = true := decide_eq_true hlt
      obtain ⟨i', hi'⟩ : ∃ z, z = i + 1 := ⟨_, rfl⟩
      have x0 : IntKind.i64.wrap ((i : Int) + 1) = (i' : Int) := by have := H100.out; rw [IntKind.wrap_i64]; omega
      have HI' : Hid (i' ≤ n) := by show i' ≤ n; omega
      have HI300 : Hid (i ≤ 300) := by show i ≤ 300; have := H100.out; omega
      have HIS := Lib.hid hi'
      have HMS : Hid (n - (intOf (Value.int .i64 (i' : Int))).toNat < n - (intOf (Value.int .i64 (i : Int))).toNat) := by show _ < _; simp [intOf]; omega
      have HTr := HT.out.below HWr.out hb
      have hx1 := (HTr.2 i hlt).1
      have hy1 := (HTr.2 i hlt).2
      have HX0 := Lib.hid (HT.out.2 i hlt)
      have k0 : (0 : Int) ≤ (i : Int) := by omega
      have k1 : (i : Int) < (n : Int) := by omega
      have bi := in_of HV.out hlt
      obtain ⟨px, hpx⟩ : ∃ z, z = X i + dx := ⟨_, rfl⟩
      obtain ⟨qx, hqx⟩ : ∃ z, z = Y i + dy := ⟨_, rfl⟩
      have v1 : IntKind.i64.wrap (X i + dx) = px := by have := H1.out; rw [hpx, IntKind.wrap_i64]; omega
      have v2 : IntKind.i64.wrap (Y i + dy) = qx := by have := H2.out; rw [hqx, IntKind.wrap_i64]; omega
      have HPX : Hid (P i = px) := by show P i = px; rw [HPF.out, hpx]
      have HQX : Hid (Q i = qx) := by show Q i = qx; rw [HQF.out, hqx]
      obtain ⟨xi, hxi⟩ : ∃ z, z = X i := ⟨_, rfl⟩
      obtain ⟨yi, hyi⟩ : ∃ z, z = Y i := ⟨_, rfl⟩
      rw [← hxi] at v1 hx1 HX0
      rw [← hyi] at v2 hy1 HX0
      clear hi' HTr bi hlt hpx hqx hxi hyi
      go_wp2_with fail
      go_region_held3 (fun w' => w'.cell? ⟨b, off + i * 2, none⟩ = some (.int .i64 xi) ∧ w'.cell? ⟨b, off + i * 2 + 1, none⟩ = some (.int .i64 yi)) (first
        | exact ⟨hx1, hy1⟩
        | go_keep
        | (refine ⟨?_, ?_⟩
           · exact (hzz.cell (p := ⟨b, off + i * 2, none⟩) hb).trans HX0.out.1
           · exact (hzz.cell (p := ⟨b, off + i * 2 + 1, none⟩) hb).trans HX0.out.2)) (first
        | ((refine step_append_lies _ (by rfl) _ _ _ (by rfl) w1.heap.size 47 KI0 _ 2 16 Tryz.underlying23 KI1.out KI2.out KI3.out KI4.out rfl (by omega) u8 i (kc (tl i P Q)) (by rfl) (HM.out.1.drew.alloc _) ⟨wr.heap.size, 0, none⟩ 1 1 [.int .i64 px, .int .i64 qx] (by rfl) (by rfl) (World.news_of_block (cs := #[.int .i64 px, .int .i64 qx]) (t := 47) (fr := (0, 0)) (heap_alloc_new _ _)) (by simp [Value.oneCell']) (by omega) (h63_le HI300.out) (hby_le HI300.out) (base_alloc1 HM.out.2.size _) (wr.heap.size + 1) (by simp) ?_
            intro gg capg wA hownA hgrowA hatA hltA
            have hzz : Below w.heap.size w wA := below_step HW1.out (below_own (HM.out.1.drew.alloc _) (HM.out.2.drew.alloc HM.out.2.size _) hgrowA))))
      have HB4 : Hid (Below w1.heap.size w1 wA) := below_own (HM.out.1.drew.alloc _) (HM.out.2.drew.alloc HM.out.2.size _) hgrowA
      have HO4 := Lib.hid hownA
      clear hownA hgrowA hatA hltA
      go_wp2_with fail
      go_roundw
      case rel => exact ⟨i', HI', rfl, by rw [HIS.out, tl_succ, kc_append, kc_one, HPX.out, HQX.out]; exact HO4.out, HB4.out⟩
      case measure => exact HMS.out
    · have e : i = n := by have := Hi.out; omega
      have T0 : decide ((i : Int) < (n : Int)) = false := by simp <;> omega
      have T0' : decide (i < n) = false := decide_eq_false hlt
      have hom := HM.out
      rw [e] at hom
      obtain ⟨go, capo, rfl, hgo, hco⟩ := hom.1.form HP1.out
      rw [e] at *
      have HT2 : Hid (TabAt wr go 0 n P Q) := out_tab hom.1
      have HGE : Hid (w.heap.size ≤ go) := Nat.le_trans HW1.out.size hgo
      have VS := Lib.hid fun w ht => rvalid go 0 n capo P Q w HP1.out H100.out ht
      clear hom hgo hco e hlt
      by_cases hin : ∀ k, k < n → inB (P k) ∧ inB (Q k)
      · have tv2 := tabB_true (tabS.out hin)
        have HIN := Lib.hid hin
        clear hin
        go_wp2_with (first | (go_at_call 27; (with_reducible refine (VS.out _ ?_).mono ?_); (focus (exact HT2.out)); rintro e w7 ⟨rfl, hb7⟩; obtain ⟨hc7, hf7⟩ := bcell hb7; have hz7 := hb7.size; (try simp at hz7); (try simp only [heap_drew, World.heap_drewN] at hz7); (try simp only [heap_drew, World.heap_drewN] at hc7); (try simp only [heap_drew, World.heap_drewN] at hf7); (try have hs1 := Nat.lt_of_succ_le hz7); (try have hs2 := Nat.lt_of_succ_lt hs1); (try have y0 : w.heap.size < w7.heap.size := by omega); (try have y1 : w.heap.size + 1 < w7.heap.size := by omega); (try have y2 : w.heap.size + 2 < w7.heap.size := by omega)))
        go_ret2
        exact .inr ⟨HIN.out, go, capo, rfl, HGE.out, HT2.out.below hb7 HT2.out.1, below_step HWr.out hb7⟩
      · have tv2 := tabB_false (X := P) (Y := Q) (n := n) (fun h => hin fun k hk => ⟨(h.2.2 k hk).1, (h.2.2 k hk).2.1⟩)
        have HIN : Hid (∃ k, k < n ∧ ¬ (inB (P k) ∧ inB (Q k))) := by
          show ∃ k, k < n ∧ ¬ (inB (P k) ∧ inB (Q k))
          apply Classical.byContradiction
          intro h
          exact hin fun k hk => Classical.byContradiction fun hq => h ⟨k, hk, hq⟩
        clear hin
        go_wp2_with (first | (go_at_call 27; (with_reducible refine (VS.out _ ?_).mono ?_); (focus (exact HT2.out)); rintro e w7 ⟨rfl, hb7⟩; obtain ⟨hc7, hf7⟩ := bcell hb7; have hz7 := hb7.size; (try simp at hz7); (try simp only [heap_drew, World.heap_drewN] at hz7); (try simp only [heap_drew, World.heap_drewN] at hc7); (try simp only [heap_drew, World.heap_drewN] at hf7); (try have hs1 := Nat.lt_of_succ_le hz7); (try have hs2 := Nat.lt_of_succ_lt hs1); (try have y0 : w.heap.size < w7.heap.size := by omega); (try have y1 : w.heap.size + 1 < w7.heap.size := by omega); (try have y2 : w.heap.size + 2 < w7.heap.size := by omega)))
        go_ret2
        exact .inl ⟨HIN.out, rfl, below_step HWr.out hb7⟩
end Go.Proofs.YtpeelnjkppdkbaaGreat

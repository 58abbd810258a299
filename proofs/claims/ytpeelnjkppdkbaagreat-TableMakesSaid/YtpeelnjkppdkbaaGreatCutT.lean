/- A part of a table, by the package. -/
import Derived.Test.YtpeelnjkppdkbaaGreatConcat
import Derived.Test.YtpeelnjkppdkbaaGreatFrac
import Derived.Test.YtpeelnjkppdkbaaGreatArea
namespace Go.Proofs.YtpeelnjkppdkbaaGreat
open Go.RowKit
set_option linter.unusedVariables false
set_option linter.unusedSimpArgs false

def cutM (X Y : Nat → Int) (lo hi : Int) : Nat → List (Int × Int)
  | 0 => []
  | i + 1 => cutM X Y lo hi i ++ (if lo < X i ∧ X i < hi then [(X i, Y i)] else [])
theorem cutM_len (X Y : Nat → Int) (lo hi : Int) : ∀ i, (cutM X Y lo hi i).length ≤ i := by
  intro i
  induction i with
  | zero => exact Nat.le_refl _
  | succ i ih => simp only [cutM, List.length_append]; split <;> simp <;> omega
def cutL (X Y : Nat → Int) (m : Nat) (lo hi : Int) : List (Int × Int) := ((lo, Val.val X Y m lo) :: cutM X Y lo hi (m + 1)) ++ (if lo < hi then [(hi, Val.val X Y m hi)] else [])

theorem cut1 (b off n m c g : Nat) (X Y : Nat → Int) (x : Int) (hn : n = m + 1) (hv : TabOK n X Y) (w : World) (ht : TabAt w b off n X Y) (hg : g < w.heap.size) (hc : w.cell? ⟨g, 0, none⟩ = some (.slice (some ⟨b, off, none⟩) n c)) :
    Calls Tryz.prog 26 #[.int .i64 x, .pointer (some ⟨g, 0, none⟩)] w fun e w' => e = .returned (.agg #[.int .i64 x, .int .i64 (Val.val X Y m x)]) ∧ Below w.heap.size w w' := by
  obtain ⟨d, hd⟩ := tpiece b off m c X Y x (hn ▸ hv)
  rw [← hn] at hd
  clear hn
  have HD := Lib.hid hd
  have HT := Lib.hid ht
  have hb := ht.1
  obtain ⟨v, hv2⟩ : ∃ v, v = Val.val X Y m x := ⟨_, rfl⟩
  obtain ⟨u, hu2⟩ : ∃ v, v = Val.rst X Y m x := ⟨_, rfl⟩
  rw [← hv2, ← hu2] at HD
  rw [← hv2]
  clear hd hv ht hv2 hu2
  go_enter Tryz.func26, Tryz.ntmps26
  go_wp2_with (first | (go_at_call 23; (with_reducible refine (HD.out _ ?_).mono ?_); (focus (exact HT.out.below (by (repeat' (first | assumption | exact Below.refl _ _ | exact Below.size (by assumption) | (refine Below.setCell ?_ ?_ _) | (refine Below.alloc ?_ ?_ _) | (refine Below.drew ?_) | (refine below_drewN ?_ _) | (refine Below.trans ?_ (Below.mono ‹Below _ _ _› ?_)) | omega | (simp; done) | (simp; omega) | (simp at *; omega)))) hb)); rintro e w1 ⟨rfl, hb1⟩; obtain ⟨hc1, hf1⟩ := bcell hb1; have hz1 := hb1.size; (try simp at hz1); (try simp only [heap_drew, World.heap_drewN] at hz1); (try simp only [heap_drew, World.heap_drewN] at hc1); (try simp only [heap_drew, World.heap_drewN] at hf1); (try have hs1 := Nat.lt_of_succ_le hz1); (try have hs2 := Nat.lt_of_succ_lt hs1); (try have y0 : w.heap.size < w1.heap.size := by omega); (try have y1 : w.heap.size + 1 < w1.heap.size := by omega); (try have y2 : w.heap.size + 2 < w1.heap.size := by omega)))
  refine bodyPost_ret (v := .agg #[.int .i64 x, .int .i64 v]) (by simp [results, Tryz.results26, go_sem, *]) rfl ⟨rfl, ?_⟩
  (repeat' (first | assumption | exact Below.refl _ _ | exact Below.size (by assumption) | (refine Below.setCell ?_ ?_ _) | (refine Below.alloc ?_ ?_ _) | (refine Below.drew ?_) | (refine below_drewN ?_ _) | (refine Below.trans ?_ (Below.mono ‹Below _ _ _› ?_)) | omega | (simp; done) | (simp; omega) | (simp at *; omega)))

/-- The knots that Cut has when it has looked at the first i of the table. -/
def cutC (X Y : Nat → Int) (lo hi vl : Int) (i : Nat) : List (Int × Int) := (lo, vl) :: cutM X Y lo hi i
theorem cutC_len (X Y : Nat → Int) (lo hi vl : Int) (i : Nat) : (cutC X Y lo hi vl i).length ≤ i + 1 := by
  have := cutM_len X Y lo hi i
  simp only [cutC, List.length_cons]; omega
theorem cutC_in {X Y : Nat → Int} {lo hi vl : Int} {i : Nat} (h1 : lo < X i) (h2 : X i < hi) : cutC X Y lo hi vl (i + 1) = cutC X Y lo hi vl i ++ [(X i, Y i)] := by
  simp only [cutC, cutM, if_pos (And.intro h1 h2), List.cons_append]
theorem cutC_out {X Y : Nat → Int} {lo hi vl : Int} {i : Nat} (h : ¬ (lo < X i ∧ X i < hi)) : cutC X Y lo hi vl (i + 1) = cutC X Y lo hi vl i := by
  simp only [cutC, cutM, if_neg h, List.append_nil]
theorem cutL_lt {X Y : Nat → Int} {m : Nat} {lo hi : Int} (h : lo < hi) : cutL X Y m lo hi = cutC X Y lo hi (Val.val X Y m lo) (m + 1) ++ [(hi, Val.val X Y m hi)] := by
  unfold cutL cutC; rw [if_pos h]
theorem cutL_eq {X Y : Nat → Int} {m : Nat} {lo hi : Int} (h : ¬ lo < hi) : cutL X Y m lo hi = cutC X Y lo hi (Val.val X Y m lo) (m + 1) := by
  unfold cutL cutC; rw [if_neg h, List.append_nil]
/-- What the loop of Cut keeps. -/
def CutMem (w wr : World) (b off n c g cap K : Nat) (xs : List Value) : Prop :=
  wr.ownsRow (w.heap.size + 1) 47 2 (.slice (some ⟨g, 0, none⟩) K cap) K xs ∧ Blk wr w.heap.size 23 #[.slice (some ⟨b, off, none⟩) n c] ∧ Below w.heap.size w wr
theorem CutMem.call {w wr w' : World} {b off n c g cap K : Nat} {xs : List Value} (h : CutMem w wr b off n c g cap K xs) (hb : Below wr.heap.size wr w') : CutMem w w' b off n c g cap K xs :=
  ⟨own_below h.1 hb, h.2.1.call hb, h.2.2.trans (hb.mono h.2.2.size)⟩
theorem CutMem.app {w wr w' : World} {b off n c g cap K g' cap' : Nat} {xs news : List Value} {cs : Array Value} (h : CutMem w wr b off n c g cap K xs)
    (hown : w'.ownsRow (w.heap.size + 1) 47 2 (.slice (some ⟨g', 0, none⟩) (K + 1) cap') (K + 1) (xs ++ news)) (hg : (wr.alloc (.cells cs 47)).grownBy w' (Value.slice (some ⟨g, 0, none⟩) K cap).ownBlock) : CutMem w w' b off n c g' cap' (K + 1) (xs ++ news) := by
  have h0 := h.2.1.lt
  have hne := own_blk_ne h.1 h.2.1 (by decide)
  refine ⟨hown, (h.2.1.alloc _).grown hg hne.symm, ?_⟩
  have hb1 : Below w.heap.size w (wr.alloc (.cells cs 47)) := h.2.2.alloc (Nat.le_of_lt h0) _
  refine ⟨hg.os.trans hb1.os, hg.tape.trans hb1.tape, hg.output.trans hb1.output, Nat.le_trans hb1.size hg.size, fun k hk => ?_⟩
  have hgge : w.heap.size + 1 ≤ g := (h.1.lt g rfl).1
  refine (hg.block k (Nat.lt_of_lt_of_le hk hb1.size) ?_).trans (hb1.block k hk)
  intro e
  simp [Value.ownBlock] at e
  omega
/-- What Cut answers where its arguments are right. -/
def CutPost (w : World) (L : List (Int × Int)) (e : Ending) (w' : World) : Prop :=
  (L.length ≤ 100 ∧ ∃ g cap : Nat, e = .returned (.tuple #[.slice (some ⟨g, 0, none⟩) L.length cap, .int .i64 0]) ∧ w.heap.size ≤ g ∧ TabAt w' g 0 L.length (kX L) (kY L) ∧ Below w.heap.size w w') ∨
  (100 < L.length ∧ e = .returned (.tuple #[.slice none 0 0, .int .i64 4]) ∧ Below w.heap.size w w')
theorem CutMem.post {w wr : World} {b off n c g cap K : Nat} {L : List (Int × Int)} (h : CutMem w wr b off n c g cap K (kc L)) (hK : K = L.length) (h1 : K ≤ 100) : CutPost w L (.returned (.tuple #[.slice (some ⟨g, 0, none⟩) K cap, .int .i64 0])) wr := by
  subst hK
  exact .inl ⟨h1, g, cap, rfl, by have := (h.1.lt g rfl).1; omega, tab_of_kc h.1, h.2.2⟩
set_option maxRecDepth 100000 in
set_option maxHeartbeats 4000000 in
theorem tcut_in (b off n m c : Nat) (X Y : Nat → Int) (lo hi : Int) (hn : n = m + 1) (hv : TabOK n X Y) (hlo : inB lo) (hhi : inB hi) (hle : lo ≤ hi) (w : World) (ht : TabAt w b off n X Y) :
    Calls Tryz.prog 7 #[.slice (some ⟨b, off, none⟩) n c, .int .i64 lo, .int .i64 hi] w (CutPost w (cutL X Y m lo hi)) := by
  have S0 := Lib.hid fun w ht => tvalid b off n c X Y w hv.1 hv.2.1 ht
  have tv := tabB_true hv
  have h100 := hv.2.1
  have SL := Lib.hid fun (w' : World) ht hg hc => cut1 b off n m c w.heap.size X Y lo hn hv w' ht hg hc
  have SH := Lib.hid fun (w' : World) ht hg hc => cut1 b off n m c w.heap.size X Y hi hn hv w' ht hg hc
  have SF1 := Lib.hid fun w => tfits lo w
  have SF2 := Lib.hid fun w => tfits hi w
  have f1 := betw_true hlo
  have f2 := betw_true hhi
  have T1 : decide (hi < lo) = false := decide_eq_false (by omega)
  have HT := Lib.hid ht
  have HV := Lib.hid hv
  have HLE := Lib.hid hle
  have H100 := Lib.hid h100
  have hb := ht.1
  obtain ⟨vl, hvl⟩ : ∃ v, v = Val.val X Y m lo := ⟨_, rfl⟩
  obtain ⟨vh, hvh⟩ : ∃ v, v = Val.val X Y m hi := ⟨_, rfl⟩
  have HVL := Lib.hid hvl
  have HVH := Lib.hid hvh
  have HN := Lib.hid hn
  clear hn hv ht hlo hhi hle hvl hvh h100
  go_enter Tryz.func7, Tryz.ntmps7
  go_upto_region 5 with (first | (go_at_call 19; (with_reducible refine (S0.out _ ?_).mono ?_); (focus (exact HT.out.below (by (repeat' (first | assumption | exact Below.refl _ _ | exact Below.size (by assumption) | (refine Below.setCell ?_ ?_ _) | (refine Below.alloc ?_ ?_ _) | (refine Below.drew ?_) | (refine below_drewN ?_ _) | (refine Below.trans ?_ (Below.mono ‹Below _ _ _› ?_)) | omega | (simp; done) | (simp; omega) | (simp at *; omega)))) hb)); rintro e w1 ⟨rfl, hb1⟩; obtain ⟨hc1, hf1⟩ := bcell hb1; have hz1 := hb1.size; (try simp at hz1); (try simp only [heap_drew, World.heap_drewN] at hz1); (try simp only [heap_drew, World.heap_drewN] at hc1); (try simp only [heap_drew, World.heap_drewN] at hf1); (try have hs1 := Nat.lt_of_succ_le hz1); (try have hs2 := Nat.lt_of_succ_lt hs1); (try have y0 : w.heap.size < w1.heap.size := by omega); (try have y1 : w.heap.size + 1 < w1.heap.size := by omega); (try have y2 : w.heap.size + 2 < w1.heap.size := by omega)) | (go_at_call 25; (with_reducible refine (SF1.out _).mono ?_); rintro e w' ⟨rfl, rfl⟩) | (go_at_call 25; (with_reducible refine (SF2.out _).mono ?_); rintro e w' ⟨rfl, rfl⟩))
  have hbk1 : Blk w1 w.heap.size 23 #[.slice (some ⟨b, off, none⟩) n c] := (Blk.new w _ _).below hb1 (by simp)
  have hbW1 : Below w.heap.size w w1 := by (repeat' (first | assumption | exact Below.refl _ _ | exact Below.size (by assumption) | (refine Below.setCell ?_ ?_ _) | (refine Below.alloc ?_ ?_ _) | (refine Below.drew ?_) | (refine below_drewN ?_ _) | (refine Below.trans ?_ (Below.mono ‹Below _ _ _› ?_)) | omega | (simp; done) | (simp; omega) | (simp at *; omega)))
  have lk1 := hbk1.lt
  have ck1 := hbk1.cell 0
  simp only [List.getElem?_toArray, List.getElem?_cons_zero] at ck1
  have HBK := Lib.hid hbk1
  have HBW := Lib.hid hbW1
  clear hbk1 hbW1 hc1 hf1 hb1
  rw [← HVL.out] at SL
  rw [← HVH.out] at SH
  go_upto_region 7 with (first | (go_at_call 26; (with_reducible refine (SL.out _ ?_ ?_ ?_).mono ?_); (focus (exact HT.out.below (by have := HBW.out; (repeat' (first | assumption | exact Below.refl _ _ | exact Below.size (by assumption) | (refine Below.setCell ?_ ?_ _) | (refine Below.alloc ?_ ?_ _) | (refine Below.drew ?_) | (refine below_drewN ?_ _) | (refine Below.trans ?_ (Below.mono ‹Below _ _ _› ?_)) | omega | (simp; done) | (simp; omega) | (simp at *; omega)))) hb)); (focus (first | assumption | (simp; omega))); (focus (first | assumption | (simp [*]; done))); rintro e w2 ⟨rfl, hb2⟩))
  have hM0 : CutMem w (w2.alloc (Obj.cells #[.int .i64 lo, .int .i64 vl] 47)) b off n c w2.heap.size 1 1 (kc (cutC X Y lo hi vl 0)) :=
    ⟨own_lit_at rfl (by have := HBK.out.lt; have := hb2.size; omega) 1 (by simp [maxLen]) rfl rfl, (HBK.out.call hb2).alloc _, (HBW.out.trans (hb2.mono HBW.out.size)).alloc (by have := HBW.out.size; have := hb2.size; omega) _⟩
  have ck2 := hM0.2.1.cell 0
  simp only [List.getElem?_toArray, List.getElem?_cons_zero] at ck2
  obtain ⟨w3, hw3⟩ : ∃ z, z = w2.alloc (Obj.cells #[.int .i64 lo, .int .i64 vl] 47) := ⟨_, rfl⟩
  rw [← hw3] at hM0 ck2 ⊢
  obtain ⟨g0, hg0⟩ : ∃ z, z = w2.heap.size := ⟨_, rfl⟩
  rw [← hg0] at hM0 ⊢
  have HM0 := Lib.hid hM0
  clear hM0 hw3 hg0 hb2
  obtain ⟨i0, hi0, hz0, hz1, hz2⟩ := info_parts1 info39
  have HI0 := Lib.hid hi0
  have HZ0 := Lib.hid hz0
  have HZ1 := Lib.hid hz1
  have HZ2 := Lib.hid hz2
  clear hi0 hz0 hz1 hz2
  go_wp2_with fail
  go_loopw [9, 37] (fun u v wr => ∃ i g cap K : Nat, Hid (i ≤ n) ∧ Hid (K = (cutC X Y lo hi vl i).length) ∧ u = .slice (some ⟨g, 0, none⟩) K cap ∧ v = .int .i64 i ∧ Hid (CutMem w wr b off n c g cap K (kc (cutC X Y lo hi vl i)))) (fun _ v _ => n - (intOf v).toNat)
  case atStart => exact ⟨0, g0, 1, 1, Nat.zero_le _, rfl, rfl, rfl, HM0⟩
  case round =>
    obtain ⟨i, g, cap, K, Hi, HK, rfl, rfl, HM⟩ := hrel
    have HB300 : Hid (K ≤ 300) := by show K ≤ 300; have := HK.out; have := cutC_len X Y lo hi vl i; have := Hi.out; have := H100.out; omega
    by_cases hlt : i < n
    · have T0 : decide ((i : Int) < (n : Int)) = true := by simp <;> omega
      have T0' : decide (i < n) = true := decide_eq_true hlt
      obtain ⟨i', hi'⟩ : ∃ z, z = i + 1 := ⟨_, rfl⟩
      have x0 : IntKind.i64.wrap ((i : Int) + 1) = (i' : Int) := by have := H100.out; rw [IntKind.wrap_i64]; omega
      have HI' : Hid (i' ≤ n) := by show i' ≤ n; omega
      have HMS : Hid (n - (intOf (Value.int .i64 (i' : Int))).toNat < n - (intOf (Value.int .i64 (i : Int))).toNat) := by show _ < _; simp [intOf]; omega
      have HTr := HT.out.below HM.out.2.2 hb
      have hx1 := (HTr.2 i hlt).1
      have hy1 := (HTr.2 i hlt).2
      have k0 : (0 : Int) ≤ (i : Int) := by omega
      have k1 : (i : Int) < (n : Int) := by omega
      have hIn : lo < X i → X i < hi → Hid (cutC X Y lo hi vl i' = cutC X Y lo hi vl i ++ [(X i, Y i)]) := fun h1 h2 => by rw [hi']; exact cutC_in h1 h2
      have hOut : ¬ (lo < X i ∧ X i < hi) → Hid (cutC X Y lo hi vl i' = cutC X Y lo hi vl i) := fun h => by rw [hi']; exact cutC_out h
      obtain ⟨xx, hxx⟩ : ∃ z, z = X i := ⟨_, rfl⟩
      obtain ⟨yy, hyy⟩ : ∃ z, z = Y i := ⟨_, rfl⟩
      rw [← hxx] at hx1 hIn hOut
      rw [← hyy] at hy1 hIn
      clear hi' HTr hlt hxx hyy
      by_cases hl : lo < xx
      · by_cases hh : xx < hi
        · have t1 := decide_eq_true hl
          have t2 := decide_eq_true hh
          have HE := hIn hl hh
          clear hIn hOut hl hh
          go_upto_region 11 with fail
          have hMk := HM.out.call (w' := wr.alloc (Obj.cells #[.int .i64 xx, .int .i64 yy] 47)) (by (repeat' (first | assumption | exact Below.refl _ _ | exact Below.size (by assumption) | (refine Below.setCell ?_ ?_ _) | (refine Below.alloc ?_ ?_ _) | (refine Below.drew ?_) | (refine below_drewN ?_ _) | (refine Below.trans ?_ (Below.mono ‹Below _ _ _› ?_)) | omega | (simp; done) | (simp; omega) | (simp at *; omega))))
          have c0 : (wr.alloc (Obj.cells #[.int .i64 xx, .int .i64 yy] 47)).cell? ⟨wr.heap.size, 0, none⟩ = some (.int .i64 xx) := by simp
          have c1 : (wr.alloc (Obj.cells #[.int .i64 xx, .int .i64 yy] 47)).cell? ⟨wr.heap.size, 1, none⟩ = some (.int .i64 yy) := by simp
          generalize wr.alloc (Obj.cells #[.int .i64 xx, .int .i64 yy] 47) = wk at hMk c0 c1 ⊢
          have HMK := Lib.hid hMk
          have HBASE : Hid (w.heap.size + 1 ≤ wk.heap.size) := hMk.2.1.lt
          clear hMk hx1 hy1
          go_wp2_with (first
            | (at_builtin; refine wpList_append_own_at _ ?g1 (.tmp 51) (.tmp 53) 23 ?g2 (w.heap.size + 1) 47 i0 (.agg #[.int .i64 0, .int .i64 0]) 2 16 Tryz.underlying23 HI0.out HZ0.out HZ1.out HZ2.out ?g3 ?g4 (.slice (some ⟨g, 0, none⟩) K cap) K (kc (cutC X Y lo hi vl i)) ?g5 ?g6 ⟨wk.heap.size, 0, none⟩ 1 1 [.int .i64 xx, .int .i64 yy] ?g7 ?g8 ?g9 ?g10 (h63_le HB300.out) (hby_le HB300.out) ?g11 ?g14
               case g1 => exact rfl
               case g2 => exact rfl
               case g3 => exact rfl
               case g4 => decide
               case g5 => exact rfl
               case g6 => exact (HMK.out.1.alloc _)
               case g7 => exact rfl
               case g8 => exact rfl
               case g9 => exact World.news_of_block (cs := #[.int .i64 xx, .int .i64 yy]) (t := 47) (fr := (0, 0)) (heap_alloc_new _ _)
               case g10 => simp [Value.oneCell']
               case g11 => exact base_alloc1 HBASE.out _
               intro v2 w4 hown2 hgrow2 hnil2 hat2
               obtain ⟨g2, cap2, rfl, hb2, hl2⟩ := hown2.form (Nat.succ_pos _)
               have HM2 := Lib.hid (HMK.out.app hown2 hgrow2)
               clear hown2 hgrow2 hnil2 hat2))
          go_roundw
          case rel => exact ⟨i', g2, cap2, K + 1, HI', by show K + 1 = _; rw [HE.out, HK.out, List.length_append]; rfl, rfl, rfl, by rw [HE.out, kc_append, kc_one]; exact HM2⟩
          case measure => exact HMS.out
        · have t1 := decide_eq_true hl
          have t2 := decide_eq_false hh
          have HE := hOut (fun h => hh h.2)
          clear hIn hOut hl hh
          go_wp2_with fail
          go_roundw
          case rel => exact ⟨i', g, cap, K, HI', by rw [HE.out]; exact HK, rfl, rfl, by rw [HE.out]; exact HM.out.call (by (repeat' (first | assumption | exact Below.refl _ _ | exact Below.size (by assumption) | (refine Below.setCell ?_ ?_ _) | (refine Below.alloc ?_ ?_ _) | (refine Below.drew ?_) | (refine below_drewN ?_ _) | (refine Below.trans ?_ (Below.mono ‹Below _ _ _› ?_)) | omega | (simp; done) | (simp; omega) | (simp at *; omega))))⟩
          case measure => exact HMS.out
      · have t1 := decide_eq_false hl
        have HE := hOut (fun h => hl h.1)
        clear hIn hOut hl
        go_wp2_with fail
        go_roundw
        case rel => exact ⟨i', g, cap, K, HI', by rw [HE.out]; exact HK, rfl, rfl, by rw [HE.out]; exact HM.out.call (by (repeat' (first | assumption | exact Below.refl _ _ | exact Below.size (by assumption) | (refine Below.setCell ?_ ?_ _) | (refine Below.alloc ?_ ?_ _) | (refine Below.drew ?_) | (refine below_drewN ?_ _) | (refine Below.trans ?_ (Below.mono ‹Below _ _ _› ?_)) | omega | (simp; done) | (simp; omega) | (simp at *; omega))))⟩
        case measure => exact HMS.out
    · have e : i = n := by have := Hi.out; omega
      have T0' : decide (i < n) = false := decide_eq_false hlt
      have T0 : decide ((i : Int) < (n : Int)) = false := by simp <;> omega
      have ckr := HM.out.2.1.cell 0
      simp only [List.getElem?_toArray, List.getElem?_cons_zero] at ckr
      have lkr := HM.out.2.1.lt
      have hEq : i = m + 1 := by rw [e]; exact HN.out
      rw [hEq] at HK HM
      have HE : Hid (i = m + 1) := hEq
      clear e hEq hlt
      by_cases hlh : lo < hi
      · have t3 := decide_eq_true hlh
        have HL : Hid (cutL X Y m lo hi = cutC X Y lo hi vl (m + 1) ++ [(hi, vh)]) := by
          show _ = _; rw [cutL_lt hlh, ← HVL.out, ← HVH.out]
        clear hlh
        go_upto_region 15 with (first
          | (go_at_call 26
             with_reducible refine (SH.out _ ?_ ?_ ?_).mono ?_
             focus (exact HT.out.below HM.out.2.2 hb)
             focus (first | assumption | (simp; omega))
             focus (first | assumption | (simp [*]; done))
             rintro e wk ⟨rfl, hbk⟩
             have HMK := Lib.hid (HM.out.call hbk)
             have HBASE : Hid (w.heap.size + 1 ≤ wk.heap.size) := HMK.out.2.1.lt
             clear hbk)
          | (at_builtin; refine wpList_append_own_at _ ?k1 (.tmp 59) (.tmp 63) 23 ?k2 (w.heap.size + 1) 47 i0 (.agg #[.int .i64 0, .int .i64 0]) 2 16 Tryz.underlying23 HI0.out HZ0.out HZ1.out HZ2.out ?k3 ?k4 (.slice (some ⟨g, 0, none⟩) K cap) K (kc (cutC X Y lo hi vl (m + 1))) ?k5 ?k6 ⟨wk.heap.size, 0, none⟩ 1 1 [.int .i64 hi, .int .i64 vh] ?k7 ?k8 ?k9 ?k10 (h63_le HB300.out) (hby_le HB300.out) ?k11 ?k14
             case k1 => exact rfl
             case k2 => exact rfl
             case k3 => exact rfl
             case k4 => decide
             case k5 => exact rfl
             case k6 => exact (HMK.out.1.alloc _)
             case k7 => exact rfl
             case k8 => exact rfl
             case k9 => exact World.news_of_block (cs := #[.int .i64 hi, .int .i64 vh]) (t := 47) (fr := (0, 0)) (heap_alloc_new _ _)
             case k10 => simp [Value.oneCell']
             case k11 => exact base_alloc1 HBASE.out _
             intro v2 w4 hown2 hgrow2 hnil2 hat2
             obtain ⟨g2, cap2, rfl, hb2, hl2⟩ := hown2.form (Nat.succ_pos _)
             have HM2 := Lib.hid (HMK.out.app hown2 hgrow2)
             obtain ⟨K', hK'⟩ : ∃ z, z = K + 1 := ⟨_, rfl⟩
             rw [← hK'] at HM2 ⊢
             have HK' := Lib.hid hK'
             clear hown2 hgrow2 hnil2 hat2 hK'))
        have HM3 : Hid (CutMem w w4 b off n c g2 cap2 K' (kc (cutL X Y m lo hi))) := by rw [HL.out, kc_append, kc_one]; exact HM2
        have HK3 : Hid (K' = (cutL X Y m lo hi).length) := by show K' = _; rw [HL.out, List.length_append, HK'.out, HK.out]; rfl
        by_cases h100 : 100 < K'
        · have t4 : decide ((100 : Int) < (K' : Int)) = true := decide_eq_true (by omega)
          have t5 : decide (100 < K') = true := decide_eq_true h100
          have H5 := Lib.hid h100
          clear h100
          go_wp2_with fail
          go_ret2
          exact .inr ⟨by rw [← HK3.out]; exact H5.out, rfl, HM3.out.2.2⟩
        · have t4 : decide ((100 : Int) < (K' : Int)) = false := decide_eq_false (by omega)
          have t5 : decide (100 < K') = false := decide_eq_false h100
          have H5 : Hid (K' ≤ 100) := by show K' ≤ 100; omega
          clear h100
          go_wp2_with fail
          go_ret2
          exact HM3.out.post HK3.out H5.out
      · have t3 := decide_eq_false hlh
        have HL : Hid (cutL X Y m lo hi = cutC X Y lo hi vl (m + 1)) := by
          show _ = _; rw [cutL_eq hlh, ← HVL.out]
        clear hlh
        have HM3 : Hid (CutMem w wr b off n c g cap K (kc (cutL X Y m lo hi))) := by rw [HL.out]; exact HM
        have HK3 : Hid (K = (cutL X Y m lo hi).length) := by show K = _; rw [HL.out, HK.out]
        by_cases h100 : 100 < K
        · have t4 : decide ((100 : Int) < (K : Int)) = true := decide_eq_true (by omega)
          have t5 : decide (100 < K) = true := decide_eq_true h100
          have H5 := Lib.hid h100
          clear h100
          go_wp2_with fail
          go_ret2
          exact .inr ⟨by rw [← HK3.out]; exact H5.out, rfl, HM3.out.2.2⟩
        · have t4 : decide ((100 : Int) < (K : Int)) = false := decide_eq_false (by omega)
          have t5 : decide (100 < K) = false := decide_eq_false h100
          have H5 : Hid (K ≤ 100) := by show K ≤ 100; omega
          clear h100
          go_wp2_with fail
          go_ret2
          exact HM3.out.post HK3.out H5.out
end Go.Proofs.YtpeelnjkppdkbaaGreat

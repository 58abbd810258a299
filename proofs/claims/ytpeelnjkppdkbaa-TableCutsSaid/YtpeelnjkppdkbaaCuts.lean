/- The walk of the law TableCuts. -/
import Derived.Test.YtpeelnjkppdkbaaCutQ
import Derived.Test.YtpeelnjkppdkbaaShift
import Derived.Test.YtpeelnjkppdkbaaSameT
namespace Go.Proofs.Ytpeelnjkppdkbaa
open Go.RowKit
set_option linter.unusedVariables false
set_option linter.unusedSimpArgs false

/-- A table that a call made, and no error. -/
def GotPost (w : World) (n : Nat) (P Q : Nat → Int) (e : Ending) (w' : World) : Prop := ∃ g cap : Nat, e = .returned (.tuple #[.slice (some ⟨g, 0, none⟩) n cap, .int .i64 0]) ∧ TabAt w' g 0 n P Q ∧ Below w.heap.size w w'
theorem tfloor' (b off n m c : Nat) (X Y : Nat → Int) (x : Int) (hn : n = m + 1) (hv : TabOK n X Y) (w : World) (ht : TabAt w b off n X Y) :
    Calls Try.prog 13 #[.slice (some ⟨b, off, none⟩) n c, .int .i64 x] w fun e w' => e = .returned (.tuple #[.int .i64 (Val.val X Y m x), .int .i64 0]) ∧ Below w.heap.size w w' := by
  subst hn
  exact tfloor b off m c X Y x hv w ht
set_option maxRecDepth 100000 in
set_option maxHeartbeats 4000000 in
theorem cuts_good (b off n m c N M : Nat) (X Y P Q : Nat → Int) (lo wd x dy hi i0 va vc vx : Int) (w : World) (en : n = m + 1) (eN : N = M + 1) (hv : TabOK n X Y) (hvP : TabOK N P Q) (ht : TabAt w b off n X Y)
    (l90 : n ≤ 90) (hlo : -562949953421312 ≤ lo ∧ lo ≤ 562949953421312) (hx : -2251799813685248 ≤ x ∧ x ≤ 2251799813685248) (hwd : 0 ≤ wd ∧ wd ≤ 4294967295) (hdy : -2147483648 ≤ dy ∧ dy ≤ 2147483647) (hhi : hi = lo + wd)
    (h0 : P 0 = lo) (hM : P M = hi) (hknot : ∀ k, k < N → Q k = Val.val X Y m (P k)) (hi0 : i0 = max lo (min hi x)) (hva : va = Val.val X Y m i0) (hvc : vc = Val.val P Q M i0) (hle : vc ≤ va) (hvx : vx = Val.val X Y m x)
    (h1 : ∀ w, TabAt w b off n X Y → Calls Try.prog 29 #[.slice (some ⟨b, off, none⟩) n c, .int .i64 lo, .int .i64 hi] w (GotPost w N P Q)) :
    Calls Try.prog 8 #[.slice (some ⟨b, off, none⟩) n c, .int .i64 lo, .int .u32 wd, .int .i64 x, .int .i32 dy] w fun e w' => e = .returned (.bool true) ∧ Below w.heap.size w w' := by
  have SA := Lib.hid fun w => cawake w
  have V1 := Lib.hid fun w ht => rvalid b off n c X Y w hv.1 hv.2.1 ht
  have tv1 := tabB_true hv
  have tv2 := tabB_true hvP
  have S1 := Lib.hid h1
  have VS := Lib.hid fun (g c : Nat) w ht => tvalid g 0 N c P Q w hvP.1 hvP.2.1 ht
  have FT := Lib.hid fun z w ht => tfloor' b off n m c X Y z en hv w ht
  have FT1 := Lib.hid fun w ht => tfloor' b off n m c X Y i0 en hv w ht
  have FTX := Lib.hid fun w ht => tfloor' b off n m c X Y x en hv w ht
  have FC := Lib.hid fun (g c : Nat) w ht => tfloor' g 0 N M c P Q i0 eN hvP w ht
  have SH := Lib.hid fun w ht => tshift b off n c X Y lo dy hv (by omega) (by omega) w ht
  rw [← hva] at FT1
  rw [← hvx] at FTX
  rw [← hvc] at FC
  have HV := Lib.hid hv
  have HT := Lib.hid ht
  have HK := Lib.hid hknot
  have HEN := Lib.hid en
  have HLO := Lib.hid hlo
  have HX := Lib.hid hx
  have HDY := Lib.hid hdy
  have HVX := Lib.hid hvx
  have HN100 : Hid (N ≤ 100) := hvP.2.1
  have H100 : Hid (n ≤ 90) := l90
  have hb := ht.1
  have t1 : decide ((90 : Int) < (n : Int)) = false := decide_eq_false (by omega)
  have t1' : decide (90 < n) = false := decide_eq_false (by omega)
  have t2 : decide (lo < -562949953421312) = false := decide_eq_false (by omega)
  have t3 : decide ((562949953421312 : Int) < lo) = false := decide_eq_false (by omega)
  have t4 : decide (x < -2251799813685248) = false := decide_eq_false (by omega)
  have t5 : decide ((2251799813685248 : Int) < x) = false := decide_eq_false (by omega)
  have t6 : decide (va < vc) = false := decide_eq_false (by omega)
  have u1 : IntKind.i64.wrap wd = wd := by rw [IntKind.wrap_i64]; omega
  have u2 : IntKind.i64.wrap (lo + wd) = hi := by rw [hhi, IntKind.wrap_i64]; omega
  have u3 : IntKind.i64.wrap dy = dy := by rw [IntKind.wrap_i64]; omega
  have u4 : IntKind.i64.wrap (-lo) = -lo := by rw [IntKind.wrap_i64]; omega
  have u5 : IntKind.i64.wrap (-dy) = -dy := by rw [IntKind.wrap_i64]; omega
  obtain ⟨xl, hxl⟩ : ∃ z, z = x + lo := ⟨_, rfl⟩
  have u6 : IntKind.i64.wrap (x + lo) = xl := by rw [hxl, IntKind.wrap_i64]; omega
  have HXL := Lib.hid hxl
  have bx := val_in x (en ▸ hv)
  rw [← hvx] at bx
  unfold inB at bx
  obtain ⟨vd, hvd⟩ : ∃ z, z = vx + dy := ⟨_, rfl⟩
  have u7 : IntKind.i64.wrap (vx + dy) = vd := by rw [hvd, IntKind.wrap_i64]; omega
  have HVD := Lib.hid hvd
  have j3 : 0 < N := by omega
  have i3 : (0 : Int) < (N : Int) := by omega
  have u8 : IntKind.i64.wrap ((N : Int) - 1) = (M : Int) := by have := HN100.out; rw [IntKind.wrap_i64]; omega
  have j4 : (M : Int) < (N : Int) := by omega
  have j5 : (0 : Int) ≤ (M : Int) := by omega
  have j6 : M < N := by omega
  have HX0 : Hid (∀ w g, TabAt w g 0 N P Q → w.cell? ⟨g, 0, none⟩ = some (.int .i64 lo)) := by
    intro w g h; have a := (h.2 0 j3).1; simp only [Nat.zero_mul, Nat.add_zero] at a; rw [← h0]; exact a
  have HXM : Hid (∀ w g, TabAt w g 0 N P Q → w.cell? ⟨g, M * 2, none⟩ = some (.int .i64 hi)) := by
    intro w g h; have a := (h.2 M j6).1; simp only [Nat.zero_add] at a; rw [← hM]; exact a
  have hi0' : max lo (min hi x) = i0 := hi0.symm
  clear h1 hv hvP ht hknot en eN l90 hlo hx hwd hdy hhi h0 hM hi0 hva hvc hle hvx hxl hvd bx
  go_enter Try.func8, Try.ntmps8
  go_upto_region 7 with (first
    | ((go_at_call 10; (with_reducible refine (SA.out _).mono ?_); rintro e w1 ⟨rfl, hb1⟩; obtain ⟨hc1, hf1⟩ := bcell hb1; have hz1 := hb1.size; (try simp at hz1); (try simp only [heap_drew, World.heap_drewN] at hz1); (try simp only [heap_drew, World.heap_drewN] at hc1); (try simp only [heap_drew, World.heap_drewN] at hf1); (try have hs1 := Nat.lt_of_succ_le hz1); (try have hs2 := Nat.lt_of_succ_lt hs1); (try have y0 : w.heap.size < w1.heap.size := by omega); (try have y1 : w.heap.size + 1 < w1.heap.size := by omega); (try have y2 : w.heap.size + 2 < w1.heap.size := by omega))
       have HW1 := Lib.hid hb1
       clear hc1 hf1 hb1)
    | ((go_at_call 12; (with_reducible refine (V1.out _ ?_).mono ?_); (focus (exact HT.out.below HW1.out hb)); rintro e w2 ⟨rfl, hb2⟩; obtain ⟨hc2, hf2⟩ := bcell hb2; have hz2 := hb2.size; (try simp at hz2); (try simp only [heap_drew, World.heap_drewN] at hz2); (try simp only [heap_drew, World.heap_drewN] at hc2); (try simp only [heap_drew, World.heap_drewN] at hf2); (try have hs1 := Nat.lt_of_succ_le hz2); (try have hs2 := Nat.lt_of_succ_lt hs1); (try have y0 : w.heap.size < w2.heap.size := by omega); (try have y1 : w.heap.size + 1 < w2.heap.size := by omega); (try have y2 : w.heap.size + 2 < w2.heap.size := by omega))
       have HW2 := Lib.hid (below_step HW1.out hb2)
       clear hc2 hf2 hb2)
    | (go_at_call 29
       with_reducible refine (S1.out _ ?_).mono ?_
       focus (exact HT.out.below HW2.out hb)
       rintro e w4 ⟨g, cap, rfl, hT4, hb4⟩
       have HW4 := Lib.hid (below_step HW2.out hb4)
       have HS4 := Lib.hid hT4
       have HH4 := Lib.hid hb4
       clear hT4 hb4))
  go_upto_region 9 with (first
    | ((go_at_call 16; (with_reducible refine (VS.out _ _ _ ?_).mono ?_); (focus (exact HS4.out)); rintro e w5 ⟨rfl, hb5⟩; obtain ⟨hc5, hf5⟩ := bcell hb5; have hz5 := hb5.size; (try simp at hz5); (try simp only [heap_drew, World.heap_drewN] at hz5); (try simp only [heap_drew, World.heap_drewN] at hc5); (try simp only [heap_drew, World.heap_drewN] at hf5); (try have hs1 := Nat.lt_of_succ_le hz5); (try have hs2 := Nat.lt_of_succ_lt hs1); (try have y0 : w.heap.size < w5.heap.size := by omega); (try have y1 : w.heap.size + 1 < w5.heap.size := by omega); (try have y2 : w.heap.size + 2 < w5.heap.size := by omega))
       have HW5 := Lib.hid (below_step HW4.out hb5)
       have HS5 := Lib.hid (HS4.out.below hb5 HS4.out.1)
       have x1 := HX0.out _ _ HS5.out
       have x2 := HXM.out _ _ HS5.out
       have x3 := HS5.out.1
       clear hc5 hf5 hb5))
  have HE6 : Hid (Below w.heap.size w w5) := HW5
  go_wp2_with fail
  go_loopw [96] (fun u wr => ∃ i : Nat, Hid (i ≤ N) ∧ u = .int .i64 i ∧ Hid (Below w.heap.size w wr) ∧ Hid (TabAt wr g 0 N P Q)) (fun u _ => N - (intOf u).toNat)
  case atStart => exact ⟨0, Nat.zero_le _, rfl, HW5, HS5⟩
  case round =>
    obtain ⟨i, Hi, rfl, HW, HS⟩ := hrel
    clear x1 x2 x3
    by_cases hlt : i < N
    · have T0 : decide ((i : Int) < (N : Int)) = true := by simp <;> omega
      have T0' : decide (i < N) = true := decide_eq_true hlt
      obtain ⟨i', hi'⟩ : ∃ z, z = i + 1 := ⟨_, rfl⟩
      have x0 : IntKind.i64.wrap ((i : Int) + 1) = (i' : Int) := by have := HN100.out; rw [IntKind.wrap_i64]; omega
      have HI' : Hid (i' ≤ N) := by show i' ≤ N; omega
      have HMS : Hid (N - (intOf (Value.int .i64 (i' : Int))).toNat < N - (intOf (Value.int .i64 (i : Int))).toNat) := by show _ < _; simp [intOf]; omega
      have hp := (HS.out.2 i hlt).1
      have hq := (HS.out.2 i hlt).2
      simp only [Nat.zero_add] at hp hq
      have k0 : (0 : Int) ≤ (i : Int) := by omega
      have k1 : (i : Int) < (N : Int) := by omega
      have yg := HS.out.1
      have hk := HK.out i hlt
      have GA := Lib.hid (FT.out (P i))
      rw [← hk] at GA
      obtain ⟨px, hpx⟩ : ∃ z, z = P i := ⟨_, rfl⟩
      obtain ⟨qx, hqx⟩ : ∃ z, z = Q i := ⟨_, rfl⟩
      rw [← hpx, ← hqx] at GA
      rw [← hpx] at hp
      rw [← hqx] at hq
      clear hi' hlt hk hpx hqx
      go_upto_region 12 with fail
      have hbk : Below wr.heap.size wr (wr.alloc (Obj.cells #[.int .i64 px, .int .i64 qx] 47)) := by (repeat' (first | assumption | exact Below.refl _ _ | exact Below.size (by assumption) | (refine Below.setCell ?_ ?_ _) | (refine Below.alloc ?_ ?_ _) | (refine Below.drew ?_) | (refine below_drewN ?_ _) | (refine Below.trans ?_ (Below.mono ‹Below _ _ _› ?_)) | omega | (simp; done) | (simp; omega) | (simp at *; omega)))
      have hK : Blk (wr.alloc (Obj.cells #[.int .i64 px, .int .i64 qx] 47)) wr.heap.size 47 #[.int .i64 px, .int .i64 qx] := Blk.new _ _ _
      have HWk := Lib.hid (below_step HW.out hbk)
      have HSk := Lib.hid (HS.out.below hbk HS.out.1)
      generalize wr.alloc (Obj.cells #[.int .i64 px, .int .i64 qx] 47) = wk at hbk hK HWk HSk ⊢
      generalize wr.heap.size = G at hbk hK ⊢
      have HKK := Lib.hid hK
      clear hbk hK hp hq
      have x1 := HKK.out.cell 0
      simp only [List.getElem?_toArray, List.getElem?_cons_zero] at x1
      go_wp2_with (first
        | (go_at_call 13
           with_reducible refine (GA.out _ ?_).mono ?_
           focus (exact HT.out.below HWk.out hb)
           rintro e w6 ⟨rfl, hb6⟩
           have HW6 := Lib.hid (below_step HWk.out hb6)
           have HS6 := Lib.hid (HSk.out.below hb6 HSk.out.1)
           have d1 := (HKK.out.call hb6).cell 1
           simp only [List.getElem?_toArray, List.getElem?_cons_succ, List.getElem?_cons_zero] at d1
           clear hb6))
      go_roundw
      case rel => exact ⟨i', HI', rfl, HW6, HS6⟩
      case measure => exact HMS.out
    · have e : i = N := by have := Hi.out; omega
      have T0 : decide ((i : Int) < (N : Int)) = false := by simp <;> omega
      have T0' : decide (i < N) = false := decide_eq_false hlt
      clear e hlt
      go_upto_region 22 with (first
        | (go_at_call 13
           with_reducible refine (FT1.out _ ?_).mono ?_
           focus (exact HT.out.below HW.out hb)
           rintro e w7 ⟨rfl, hb7⟩
           have HW7 := Lib.hid (below_step HW.out hb7)
           have HS7 := Lib.hid (HS.out.below hb7 HS.out.1)
           clear hb7)
        | (go_at_call 13
           with_reducible refine (FC.out _ _ _ ?_).mono ?_
           focus (exact HS7.out)
           rintro e w8 ⟨rfl, hb8⟩
           have HW8 := Lib.hid (below_step HW7.out hb8)
           clear hb8)
        | (go_at_call 30
           with_reducible refine (SH.out _ ?_).mono ?_
           focus (exact HT.out.below HW8.out hb)
           rintro e w9 (⟨hbad, rfl, hb9⟩ | ⟨hgood, g2, cap2, rfl, hg2, hT9, hb9⟩)
           all_goals (have HW9 := Lib.hid (below_step HW8.out hb9))))
      · have HW10 := HW9
        clear hbad hb9
        go_wp2_with fail
        go_ret
        exact ⟨by simp, HW10.out⟩
      · have hvS : TabOK n (fun k => X k + lo) (fun k => Y k + dy) := tab_shift HV.out (fun k hk => (hgood k hk).1) (fun k hk => (hgood k hk).2)
        have SB := Lib.hid fun w ht => tshift g2 0 n cap2 _ _ (-lo) (-dy) hvS (by have := HLO.out; omega) (by have := HDY.out; omega) w ht
        have FD := Lib.hid fun w ht => tfloor' g2 0 n m cap2 _ _ xl HEN.out hvS w ht
        have e1 : Val.val (fun k => X k + lo) (fun k => Y k + dy) m xl = vd := by
          rw [HXL.out, val_shift, ← HVX.out, HVD.out]
        rw [e1] at FD
        have HM := Lib.hid fun (g' c' : Nat) w ht ht' => rsame_gen g' b 0 off n c' c X Y w (by have := H100.out; omega) ht ht'
        have HT9 := Lib.hid hT9
        clear hgood hT9 hb9 hvS e1
        go_upto_region 27 with (first
          | (go_at_call 30
             with_reducible refine (SB.out _ ?_).mono ?_
             focus (exact HT9.out)
             rintro e w10 (⟨hbad, rfl, hb10⟩ | ⟨hgood, g3, cap3, rfl, hg3, hT10, hb10⟩)
             focus (exfalso
                    obtain ⟨k, hk, hn⟩ := hbad
                    have b := in_of HV.out hk
                    apply hn
                    show inB (X k + lo + -lo) ∧ inB (Y k + dy + -dy)
                    unfold inB
                    omega)
             have HT10 : Hid (TabAt w10 g3 0 n X Y) := hT10.congr (fun k _ => by show X k + lo + -lo = X k; omega) (fun k _ => by show Y k + dy + -dy = Y k; omega)
             have HW10 := Lib.hid (below_step HW9.out hb10)
             have HD10 := Lib.hid (HT9.out.below hb10 HT9.out.1)
             clear hgood hT10 hb10)
          | (go_at_call 13
             with_reducible refine (FTX.out _ ?_).mono ?_
             focus (exact HT.out.below HW10.out hb)
             rintro e w11 ⟨rfl, hb11⟩
             have HW11 := Lib.hid (below_step HW10.out hb11)
             have HD11 := Lib.hid (HD10.out.below hb11 HD10.out.1)
             have HT11 := Lib.hid (HT10.out.below hb11 HT10.out.1)
             clear hb11)
          | (go_at_call 13
             with_reducible refine (FD.out _ ?_).mono ?_
             focus (exact HD11.out)
             rintro e w12 ⟨rfl, hb12⟩
             have HW12 := Lib.hid (below_step HW11.out hb12)
             have HT12 := Lib.hid (HT11.out.below hb12 HT11.out.1)
             clear hb12))
        go_wp2_with (first
          | (go_at_call 27
             with_reducible refine (HM.out _ _ _ ?_ ?_).mono ?_
             focus (exact HT12.out)
             focus (exact HT.out.below HW12.out hb)
             rintro e w13 ⟨rfl, hb13⟩
             have HW13 := Lib.hid (below_step HW12.out hb13)
             clear hb13))
        go_ret
        exact ⟨by simp, HW13.out⟩
set_option maxRecDepth 100000 in
set_option maxHeartbeats 2000000 in
theorem cuts_walk (A : Option Addr) (n c : Nat) (X Y : Nat → Int) (lo wd x dy : Int) (w : World) (hTA : TabIn w A n X Y) (hwd : 0 ≤ wd ∧ wd ≤ 4294967295) (hdy : -2147483648 ≤ dy ∧ dy ≤ 2147483647) :
    Calls Try.prog 8 #[.slice A n c, .int .i64 lo, .int .u32 wd, .int .i64 x, .int .i32 dy] w fun e w' => e = .returned (.bool true) ∧ Below w.heap.size w w' := by
  have SA := Lib.hid fun w => cawake w
  have HTA := Lib.hid hTA
  have V1 := Lib.hid fun w h => rvalid_any A n c X Y w h
  by_cases oA : TabOK n X Y
  · have tv1 := tabB_true oA
    by_cases la : 90 < n
    · have t1 : decide ((90 : Int) < (n : Int)) = true := decide_eq_true (by omega)
      have t1' : decide (90 < n) = true := decide_eq_true la
      clear hTA oA la
      go_enter Try.func8, Try.ntmps8
      go_wp2_with (first | (go_at_call 10; (with_reducible refine (SA.out _).mono ?_); rintro e w1 ⟨rfl, hb1⟩; obtain ⟨hc1, hf1⟩ := bcell hb1; have hz1 := hb1.size; (try simp at hz1); (try simp only [heap_drew, World.heap_drewN] at hz1); (try simp only [heap_drew, World.heap_drewN] at hc1); (try simp only [heap_drew, World.heap_drewN] at hf1); (try have hs1 := Nat.lt_of_succ_le hz1); (try have hs2 := Nat.lt_of_succ_lt hs1); (try have y0 : w.heap.size < w1.heap.size := by omega); (try have y1 : w.heap.size + 1 < w1.heap.size := by omega); (try have y2 : w.heap.size + 2 < w1.heap.size := by omega)) | (go_at_call 12; (with_reducible refine (V1.out _ ?_).mono ?_); (focus (exact HTA.out.below (Nat.le_refl _) (by (repeat' (first | assumption | exact Below.refl _ _ | exact Below.size (by assumption) | (refine Below.setCell ?_ ?_ _) | (refine Below.alloc ?_ ?_ _) | (refine Below.drew ?_) | (refine below_drewN ?_ _) | (refine Below.trans ?_ (Below.mono ‹Below _ _ _› ?_)) | omega | (simp; done) | (simp; omega) | (simp at *; omega)))))); rintro e w2 ⟨rfl, hb2⟩; obtain ⟨hc2, hf2⟩ := bcell hb2; have hz2 := hb2.size; (try simp at hz2); (try simp only [heap_drew, World.heap_drewN] at hz2); (try simp only [heap_drew, World.heap_drewN] at hc2); (try simp only [heap_drew, World.heap_drewN] at hf2); (try have hs1 := Nat.lt_of_succ_le hz2); (try have hs2 := Nat.lt_of_succ_lt hs1); (try have y0 : w.heap.size < w2.heap.size := by omega); (try have y1 : w.heap.size + 1 < w2.heap.size := by omega); (try have y2 : w.heap.size + 2 < w2.heap.size := by omega)))
      go_ret
      refine ⟨rfl, ?_⟩
      (repeat' (first | assumption | exact Below.refl _ _ | exact Below.size (by assumption) | (refine Below.setCell ?_ ?_ _) | (refine Below.alloc ?_ ?_ _) | (refine Below.drew ?_) | (refine below_drewN ?_ _) | (refine Below.trans ?_ (Below.mono ‹Below _ _ _› ?_)) | omega | (simp; done) | (simp; omega) | (simp at *; omega)))
    · have t1 : decide ((90 : Int) < (n : Int)) = false := decide_eq_false (by omega)
      have t1' : decide (90 < n) = false := decide_eq_false la
      by_cases g2 : lo < -562949953421312
      · have t2 : decide (lo < -562949953421312) = true := decide_eq_true g2
        clear hTA oA la g2
        go_enter Try.func8, Try.ntmps8
        go_wp2_with (first | (go_at_call 10; (with_reducible refine (SA.out _).mono ?_); rintro e w1 ⟨rfl, hb1⟩; obtain ⟨hc1, hf1⟩ := bcell hb1; have hz1 := hb1.size; (try simp at hz1); (try simp only [heap_drew, World.heap_drewN] at hz1); (try simp only [heap_drew, World.heap_drewN] at hc1); (try simp only [heap_drew, World.heap_drewN] at hf1); (try have hs1 := Nat.lt_of_succ_le hz1); (try have hs2 := Nat.lt_of_succ_lt hs1); (try have y0 : w.heap.size < w1.heap.size := by omega); (try have y1 : w.heap.size + 1 < w1.heap.size := by omega); (try have y2 : w.heap.size + 2 < w1.heap.size := by omega)) | (go_at_call 12; (with_reducible refine (V1.out _ ?_).mono ?_); (focus (exact HTA.out.below (Nat.le_refl _) (by (repeat' (first | assumption | exact Below.refl _ _ | exact Below.size (by assumption) | (refine Below.setCell ?_ ?_ _) | (refine Below.alloc ?_ ?_ _) | (refine Below.drew ?_) | (refine below_drewN ?_ _) | (refine Below.trans ?_ (Below.mono ‹Below _ _ _› ?_)) | omega | (simp; done) | (simp; omega) | (simp at *; omega)))))); rintro e w2 ⟨rfl, hb2⟩; obtain ⟨hc2, hf2⟩ := bcell hb2; have hz2 := hb2.size; (try simp at hz2); (try simp only [heap_drew, World.heap_drewN] at hz2); (try simp only [heap_drew, World.heap_drewN] at hc2); (try simp only [heap_drew, World.heap_drewN] at hf2); (try have hs1 := Nat.lt_of_succ_le hz2); (try have hs2 := Nat.lt_of_succ_lt hs1); (try have y0 : w.heap.size < w2.heap.size := by omega); (try have y1 : w.heap.size + 1 < w2.heap.size := by omega); (try have y2 : w.heap.size + 2 < w2.heap.size := by omega)))
        go_ret
        refine ⟨rfl, ?_⟩
        (repeat' (first | assumption | exact Below.refl _ _ | exact Below.size (by assumption) | (refine Below.setCell ?_ ?_ _) | (refine Below.alloc ?_ ?_ _) | (refine Below.drew ?_) | (refine below_drewN ?_ _) | (refine Below.trans ?_ (Below.mono ‹Below _ _ _› ?_)) | omega | (simp; done) | (simp; omega) | (simp at *; omega)))
      · have t2 : decide (lo < -562949953421312) = false := decide_eq_false g2
        by_cases g3 : (562949953421312 : Int) < lo
        · have t3 : decide ((562949953421312 : Int) < lo) = true := decide_eq_true g3
          clear hTA oA la g2 g3
          go_enter Try.func8, Try.ntmps8
          go_wp2_with (first | (go_at_call 10; (with_reducible refine (SA.out _).mono ?_); rintro e w1 ⟨rfl, hb1⟩; obtain ⟨hc1, hf1⟩ := bcell hb1; have hz1 := hb1.size; (try simp at hz1); (try simp only [heap_drew, World.heap_drewN] at hz1); (try simp only [heap_drew, World.heap_drewN] at hc1); (try simp only [heap_drew, World.heap_drewN] at hf1); (try have hs1 := Nat.lt_of_succ_le hz1); (try have hs2 := Nat.lt_of_succ_lt hs1); (try have y0 : w.heap.size < w1.heap.size := by omega); (try have y1 : w.heap.size + 1 < w1.heap.size := by omega); (try have y2 : w.heap.size + 2 < w1.heap.size := by omega)) | (go_at_call 12; (with_reducible refine (V1.out _ ?_).mono ?_); (focus (exact HTA.out.below (Nat.le_refl _) (by (repeat' (first | assumption | exact Below.refl _ _ | exact Below.size (by assumption) | (refine Below.setCell ?_ ?_ _) | (refine Below.alloc ?_ ?_ _) | (refine Below.drew ?_) | (refine below_drewN ?_ _) | (refine Below.trans ?_ (Below.mono ‹Below _ _ _› ?_)) | omega | (simp; done) | (simp; omega) | (simp at *; omega)))))); rintro e w2 ⟨rfl, hb2⟩; obtain ⟨hc2, hf2⟩ := bcell hb2; have hz2 := hb2.size; (try simp at hz2); (try simp only [heap_drew, World.heap_drewN] at hz2); (try simp only [heap_drew, World.heap_drewN] at hc2); (try simp only [heap_drew, World.heap_drewN] at hf2); (try have hs1 := Nat.lt_of_succ_le hz2); (try have hs2 := Nat.lt_of_succ_lt hs1); (try have y0 : w.heap.size < w2.heap.size := by omega); (try have y1 : w.heap.size + 1 < w2.heap.size := by omega); (try have y2 : w.heap.size + 2 < w2.heap.size := by omega)))
          go_ret
          refine ⟨rfl, ?_⟩
          (repeat' (first | assumption | exact Below.refl _ _ | exact Below.size (by assumption) | (refine Below.setCell ?_ ?_ _) | (refine Below.alloc ?_ ?_ _) | (refine Below.drew ?_) | (refine below_drewN ?_ _) | (refine Below.trans ?_ (Below.mono ‹Below _ _ _› ?_)) | omega | (simp; done) | (simp; omega) | (simp at *; omega)))
        · have t3 : decide ((562949953421312 : Int) < lo) = false := decide_eq_false g3
          by_cases g4 : x < -2251799813685248
          · have t4 : decide (x < -2251799813685248) = true := decide_eq_true g4
            clear hTA oA la g2 g3 g4
            go_enter Try.func8, Try.ntmps8
            go_wp2_with (first | (go_at_call 10; (with_reducible refine (SA.out _).mono ?_); rintro e w1 ⟨rfl, hb1⟩; obtain ⟨hc1, hf1⟩ := bcell hb1; have hz1 := hb1.size; (try simp at hz1); (try simp only [heap_drew, World.heap_drewN] at hz1); (try simp only [heap_drew, World.heap_drewN] at hc1); (try simp only [heap_drew, World.heap_drewN] at hf1); (try have hs1 := Nat.lt_of_succ_le hz1); (try have hs2 := Nat.lt_of_succ_lt hs1); (try have y0 : w.heap.size < w1.heap.size := by omega); (try have y1 : w.heap.size + 1 < w1.heap.size := by omega); (try have y2 : w.heap.size + 2 < w1.heap.size := by omega)) | (go_at_call 12; (with_reducible refine (V1.out _ ?_).mono ?_); (focus (exact HTA.out.below (Nat.le_refl _) (by (repeat' (first | assumption | exact Below.refl _ _ | exact Below.size (by assumption) | (refine Below.setCell ?_ ?_ _) | (refine Below.alloc ?_ ?_ _) | (refine Below.drew ?_) | (refine below_drewN ?_ _) | (refine Below.trans ?_ (Below.mono ‹Below _ _ _› ?_)) | omega | (simp; done) | (simp; omega) | (simp at *; omega)))))); rintro e w2 ⟨rfl, hb2⟩; obtain ⟨hc2, hf2⟩ := bcell hb2; have hz2 := hb2.size; (try simp at hz2); (try simp only [heap_drew, World.heap_drewN] at hz2); (try simp only [heap_drew, World.heap_drewN] at hc2); (try simp only [heap_drew, World.heap_drewN] at hf2); (try have hs1 := Nat.lt_of_succ_le hz2); (try have hs2 := Nat.lt_of_succ_lt hs1); (try have y0 : w.heap.size < w2.heap.size := by omega); (try have y1 : w.heap.size + 1 < w2.heap.size := by omega); (try have y2 : w.heap.size + 2 < w2.heap.size := by omega)))
            go_ret
            refine ⟨rfl, ?_⟩
            (repeat' (first | assumption | exact Below.refl _ _ | exact Below.size (by assumption) | (refine Below.setCell ?_ ?_ _) | (refine Below.alloc ?_ ?_ _) | (refine Below.drew ?_) | (refine below_drewN ?_ _) | (refine Below.trans ?_ (Below.mono ‹Below _ _ _› ?_)) | omega | (simp; done) | (simp; omega) | (simp at *; omega)))
          · have t4 : decide (x < -2251799813685248) = false := decide_eq_false g4
            by_cases g5 : (2251799813685248 : Int) < x
            · have t5 : decide ((2251799813685248 : Int) < x) = true := decide_eq_true g5
              clear hTA oA la g2 g3 g4 g5
              go_enter Try.func8, Try.ntmps8
              go_wp2_with (first | (go_at_call 10; (with_reducible refine (SA.out _).mono ?_); rintro e w1 ⟨rfl, hb1⟩; obtain ⟨hc1, hf1⟩ := bcell hb1; have hz1 := hb1.size; (try simp at hz1); (try simp only [heap_drew, World.heap_drewN] at hz1); (try simp only [heap_drew, World.heap_drewN] at hc1); (try simp only [heap_drew, World.heap_drewN] at hf1); (try have hs1 := Nat.lt_of_succ_le hz1); (try have hs2 := Nat.lt_of_succ_lt hs1); (try have y0 : w.heap.size < w1.heap.size := by omega); (try have y1 : w.heap.size + 1 < w1.heap.size := by omega); (try have y2 : w.heap.size + 2 < w1.heap.size := by omega)) | (go_at_call 12; (with_reducible refine (V1.out _ ?_).mono ?_); (focus (exact HTA.out.below (Nat.le_refl _) (by (repeat' (first | assumption | exact Below.refl _ _ | exact Below.size (by assumption) | (refine Below.setCell ?_ ?_ _) | (refine Below.alloc ?_ ?_ _) | (refine Below.drew ?_) | (refine below_drewN ?_ _) | (refine Below.trans ?_ (Below.mono ‹Below _ _ _› ?_)) | omega | (simp; done) | (simp; omega) | (simp at *; omega)))))); rintro e w2 ⟨rfl, hb2⟩; obtain ⟨hc2, hf2⟩ := bcell hb2; have hz2 := hb2.size; (try simp at hz2); (try simp only [heap_drew, World.heap_drewN] at hz2); (try simp only [heap_drew, World.heap_drewN] at hc2); (try simp only [heap_drew, World.heap_drewN] at hf2); (try have hs1 := Nat.lt_of_succ_le hz2); (try have hs2 := Nat.lt_of_succ_lt hs1); (try have y0 : w.heap.size < w2.heap.size := by omega); (try have y1 : w.heap.size + 1 < w2.heap.size := by omega); (try have y2 : w.heap.size + 2 < w2.heap.size := by omega)))
              go_ret
              refine ⟨rfl, ?_⟩
              (repeat' (first | assumption | exact Below.refl _ _ | exact Below.size (by assumption) | (refine Below.setCell ?_ ?_ _) | (refine Below.alloc ?_ ?_ _) | (refine Below.drew ?_) | (refine below_drewN ?_ _) | (refine Below.trans ?_ (Below.mono ‹Below _ _ _› ?_)) | omega | (simp; done) | (simp; omega) | (simp at *; omega)))
            · clear t1 t1' t2 t3 t4 tv1 SA HTA V1
              rcases hTA.2 with h0 | ⟨ba, oa, rfl, hA⟩
              · have := oA.1; omega
              obtain ⟨m, ea⟩ : ∃ m, n = m + 1 := ⟨n - 1, by have := oA.1; omega⟩
              have oA' : TabOK (m + 1) X Y := ea ▸ oA
              have aA := asc_of oA'
              obtain ⟨hi, hhi⟩ : ∃ z, z = lo + wd := ⟨_, rfl⟩
              have bl : inB lo := by unfold inB; omega
              have bh : inB hi := by unfold inB; omega
              have hle : lo ≤ hi := by omega
              have hP := partOf aA hle
              have hC := fun w h => tcut_in ba oa n m c X Y lo hi ea oA bl bh hle w h
              generalize cutL X Y m lo hi = L at hP hC
              have h3 := hP.le
              obtain ⟨M, eM⟩ : ∃ M, L.length = M + 1 := ⟨L.length - 1, by have := hP.pos; omega⟩
              refine cuts_good ba oa n m c L.length M X Y (kX L) (kY L) lo wd x dy hi _ _ _ _ w ea eM oA (hP.tab oA' aA bl bh (by omega)) hA (by omega) (by omega) (by omega) hwd hdy hhi hP.first (hP.last eM) (fun k hk => (hP.inn k hk).2.2) rfl rfl rfl (hP.below aA eM _ (by omega) (by omega)) rfl (fun w h => (hC w h).mono ?_)
              rintro e w' (⟨_, g, cap, he, _, hT, hb⟩ | ⟨h, _⟩)
              · exact ⟨g, cap, he, hT, hb⟩
              · omega
  · have tv1 := tabB_false oA
    clear hTA oA
    go_enter Try.func8, Try.ntmps8
    go_wp2_with (first | (go_at_call 10; (with_reducible refine (SA.out _).mono ?_); rintro e w1 ⟨rfl, hb1⟩; obtain ⟨hc1, hf1⟩ := bcell hb1; have hz1 := hb1.size; (try simp at hz1); (try simp only [heap_drew, World.heap_drewN] at hz1); (try simp only [heap_drew, World.heap_drewN] at hc1); (try simp only [heap_drew, World.heap_drewN] at hf1); (try have hs1 := Nat.lt_of_succ_le hz1); (try have hs2 := Nat.lt_of_succ_lt hs1); (try have y0 : w.heap.size < w1.heap.size := by omega); (try have y1 : w.heap.size + 1 < w1.heap.size := by omega); (try have y2 : w.heap.size + 2 < w1.heap.size := by omega)) | (go_at_call 12; (with_reducible refine (V1.out _ ?_).mono ?_); (focus (exact HTA.out.below (Nat.le_refl _) (by (repeat' (first | assumption | exact Below.refl _ _ | exact Below.size (by assumption) | (refine Below.setCell ?_ ?_ _) | (refine Below.alloc ?_ ?_ _) | (refine Below.drew ?_) | (refine below_drewN ?_ _) | (refine Below.trans ?_ (Below.mono ‹Below _ _ _› ?_)) | omega | (simp; done) | (simp; omega) | (simp at *; omega)))))); rintro e w2 ⟨rfl, hb2⟩; obtain ⟨hc2, hf2⟩ := bcell hb2; have hz2 := hb2.size; (try simp at hz2); (try simp only [heap_drew, World.heap_drewN] at hz2); (try simp only [heap_drew, World.heap_drewN] at hc2); (try simp only [heap_drew, World.heap_drewN] at hf2); (try have hs1 := Nat.lt_of_succ_le hz2); (try have hs2 := Nat.lt_of_succ_lt hs1); (try have y0 : w.heap.size < w2.heap.size := by omega); (try have y1 : w.heap.size + 1 < w2.heap.size := by omega); (try have y2 : w.heap.size + 2 < w2.heap.size := by omega)))
    go_ret
    refine ⟨rfl, ?_⟩
    (repeat' (first | assumption | exact Below.refl _ _ | exact Below.size (by assumption) | (refine Below.setCell ?_ ?_ _) | (refine Below.alloc ?_ ?_ _) | (refine Below.drew ?_) | (refine below_drewN ?_ _) | (refine Below.trans ?_ (Below.mono ‹Below _ _ _› ?_)) | omega | (simp; done) | (simp; omega) | (simp at *; omega)))
end Go.Proofs.Ytpeelnjkppdkbaa
